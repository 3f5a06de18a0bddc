import Derived.Test.YtdhkkkhnjooioaaGreatZal
import Derived.Test.YtdhkkkhnjooioaaGreatZag
import Derived.Test.YtdhkkkhnjooioaaGreatZaj
set_option linter.unusedSimpArgs false
set_option linter.unusedVariables false
namespace Go.Proofs.YtdhkkkhnjooioaaGreat
open Go.RowKit
section
variable {w:World} {S:Nat} {s:G.St}
theorem ssplit_any (h:StR (heapOf w) S s) (f v:Nat) (hf:f<9223372036854775808):Calls Tryz.prog 78 #[vPt S,nv f,nv v] w fun e w'=>e=.returned (.tuple #[nv (s.split f v).1,nv (s.split f v).2])∧Below w.heap.size w w':=by
 cases hn:s.nd (f / 2) with
 | none =>
   have hr:s.split f v=(f,f):=by rw [G.split_eq,hn]
   have HC:=Lib.hid (sat_none h f hf hn)
   rw [hr]
   clear h
   go_enter Tryz.func78,Tryz.ntmps78
   go_wp2_with (go_at_call 41;(with_reducible refine Calls.mono HC.out ?_);rintro e w2 ⟨rfl,hE⟩;have HE:=Lib.hid hE;clear hE)
   go_ret2
   exact ⟨rfl,HE.out⟩
 | some n =>
   have HC:=Lib.hid (sat_some h f hf hn)
   by_cases hv:n.v=v
   · have hr:s.split f v=(G.flipIf n.lo (f % 2 == 1),G.flipIf n.hi (f % 2 == 1)):=by rw [G.split_eq,hn];exact if_pos hv
     rw [hr]
     rw [hv] at HC
     clear h
     go_enter Tryz.func78,Tryz.ntmps78
     go_wp2_with (go_at_call 41;(with_reducible refine Calls.mono HC.out ?_);rintro e w2 ⟨rfl,hE⟩;have HE:=Lib.hid hE;clear hE)
     go_ret2
     exact ⟨rfl,HE.out⟩
   · have hr:s.split f v=(f,f):=by rw [G.split_eq,hn];exact if_neg hv
     have hv':¬ (n.v:Int)=(v:Int):=by omega
     rw [hr]
     clear h
     go_enter Tryz.func78,Tryz.ntmps78
     go_wp2_with (go_at_call 41;(with_reducible refine Calls.mono HC.out ?_);rintro e w2 ⟨rfl,hE⟩;have HE:=Lib.hid hE;clear hE)
     go_ret2
     exact ⟨rfl,HE.out⟩
set_option maxRecDepth 100000 in
set_option maxHeartbeats 1000000 in
theorem sunder_any (h:StR (heapOf w) S s) (f:Nat) (l:Int) (hf:f<9223372036854775808):Calls Tryz.prog 44 #[vPt S,nv f,.int .i64 l] w fun e w'=>e=.returned (.bool (s.under f l))∧Below w.heap.size w w':=by
 have hR:=h
 obtain ⟨h0,L,P,vV,vL,vT,vC,gs,h1,iS1,h3,h4,h5,h6,h7,h8,h9,hP,h11,h12,h13,h14⟩:=h
 have HN:=Lib.hid (fun w':World=>enode_any w' f hf)
 have HA:=Lib.hid (fun (w':World) (hle:(heapOf w).le (heapOf w'))=>pat_nat (hP.le hle) (f / 2))
 have HV5:=Lib.hid (ndW_cells (f / 2) (s.pl.nd (f / 2))).1
 have HV1:=Lib.hid (ndW_cells (f / 2) (s.pl.nd (f / 2))).2
 have HLv:=Lib.hid (fun (w':World) (v:Int) (hle:(heapOf w).le (heapOf w'))=>slevel_any (hR.le hle) v)
 have hz:f / 2=0→s.pl.nd (f / 2)=none:=fun h=>by rw [h];exact G.Pl.nd_zero _
 clear h0 h1 h3 h4 h5 h6 h7 h8 h9 hP h11 h12 h13 h14 hR
 have hS:Sat w (heapOf w) ([] ++ []) w:=Sat.start w
 have u1:s.pl.nd (f / 2)=none→s.under f l=(f / 2 == 0):=fun ho=>by unfold G.St.under G.St.nd;simp [ho]
 have u2:∀ n,s.pl.nd (f / 2)=some n→¬ f / 2=0→s.under f l=decide (s.level n.v > l):=fun n ho hc=>by unfold G.St.under G.St.nd;simp [ho,hc]
 cases hn:s.pl.nd (f / 2) with
 | none =>
   rw [hn] at HA HV5 HV1
   rw [u1 hn]
   clear u1 u2 hn hz HLv
   go_enter Tryz.func44,Tryz.ntmps44
   go_wp2_with fail
   refine region_fnV [[],[0],[0,1],[0,1,2],[],[4],[0,1,2,3,4,5],[0,1,2,3,4,5,6],[0,1,2,3,4,5,6,7],[0,1,2,3,4,5,6,7],[],[0,1,2,3,4,5,6,7,8,10],[0,1,2,3,4,5,6,7,8,9,10,11]] _ _ [] _ [⟨10,11,96,#[.int .i64 0,.int .i64 0,.int .i64 0,.int .i64 0,.int .i64 0],fun cs _=>cs=(ndW (f / 2) none).cells⟩] [fun v _=>v=vPt S,fun v _=>v=vPt S,fun v _=>v=.pointer (some ⟨S,1,none⟩),fun v _=>v=vPt P,fun v _=>v=nv (f),fun v _=>v=nv ((f) / 2),fun v _=>v=.tuple #[ndW (f / 2) none,.bool (false)],fun v _=>v=.tuple #[ndW (f / 2) none,.bool (false)],fun v _=>v=ndW (f / 2) none,fun v _=>v=.bool (false),fun _ _=>True,fun _ _=>True,fun v _=>v=.bool (false)]
    (by kernel_rfl) (by kernel_rfl) (by simp) hS ?_ ?monoC ?okb ?dal ?fill ?plain ?fin
   · repeat (first|exact Lasting.nil|refine Lasting.cons (fun _ _ _ _ h=>h) ?_)
   case monoC =>
    intro b' hb' cs J K hJK
    simp only [List.mem_cons,List.not_mem_nil,or_false] at hb'
    subst hb'
    exact fun h=>h
   case okb =>
    intro b' hb'
    simp only [List.mem_cons,List.not_mem_nil,or_false] at hb'
    subst hb'
    exact ⟨by simp,⟨rfl,rfl,rfl⟩,⟨_,zeroB_eq ty_z96,rfl⟩,⟨rfl,rfl,_,rfl⟩,by simp,sizeB_eq ty_sz96⟩
   case dal =>
    intro b' hb' v' J
    simp only [List.mem_cons,List.not_mem_nil,or_false] at hb'
    subst hb'
    exact ⟨trivial,trivial⟩
   case fill =>
    intro b' hb' vals J hJ hg
    simp only [List.mem_cons,List.not_mem_nil,or_false] at hb'
    subst hb'
    simp only [zH,zI,Given,Facts] at hg
    refine ⟨ndW (f / 2) none,by simp only [storeArg,textL,actL,dstAt,opAt,zH,zI,zA,zB,zK,if_true,Act.put,zE,zF,zG,Act.eval,zD,zC,zJ,hg],HV5.out,HV1.out,rfl⟩
   case plain =>
    repeat' (first|exact trivial|apply And.intro)
    all_goals first
     | (refine .inl (by rfl))
     | ((refine .inr ?_;intro vals J bs w hg hJ hS;simp only [zH,zI,Given,Facts] at hg;simp only [textL,actL,dstAt,opAt,zH,zI,zA,zB,zK,if_true,Act.put,zE,zF,zG,hg];refine ⟨?_⟩;refine wpStep_of (fun K hK=>?_);have HK:=Lib.hid hK;clear hK;rw [if_pos (by rfl)];(first|((with_reducible refine atLoad ?_);first|((refine' wp_ldi1 (v:=_) hS hJ ?ha rfl ?hc ?_);(case ha=>first|exact ty_agg55);(case hc=>assumption)))|(go_wp2_with (first|(go_at_call 51;(with_reducible refine Calls.mono (HN.out _) ?_);rintro e w2 ⟨rfl,rfl⟩)|(go_at_call 50;((with_reducible refine Calls.mono (HA.out _ (PH.le.trans hJ hS.ile)) ?_);rintro e w2 ⟨rfl,hb2⟩;have hS2:=hS.below_ hb2;clear hS hb2;have hS:=hS2;clear hS2)))));( refine HK.out _ _ ⟨rfl,J,PH.le.refl _,hS,?_⟩ );clear HK;simp only [Facts,outOf,zH,zI,Act.put,zE,zF,zG,zD,zC,zA,zB,zJ]);done)
   case fin =>
    intro vals J bs w hJ hg hS hB
    have hE:=Lib.hid (hS.end_ hJ)
    clear hB hS HA HV5 HV1 iS1
    by_cases hc:f / 2=0
    · rw [hc] at HN
      simp only [List.length_cons,List.length_nil,Nat.reduceAdd,Below_,Facts,zH,zI,true_and,and_true] at hg;simp only [List.length_cons,List.length_nil,Nat.reduceAdd,textL,actL,dstAt,zA,zB,zK,if_true,Act.put,zE,zF,zG,hg];refine ⟨?_⟩
      clear hg
      go_wp2_with (first|(go_at_call 51;(with_reducible refine Calls.mono (HN.out _) ?_);rintro e w2 ⟨rfl,rfl⟩))
      go_ret
      exact ⟨by rw [hc];rfl,hE.out⟩
    · have e2:¬ ((f / 2:Nat):Int)=0:=by omega
      simp only [List.length_cons,List.length_nil,Nat.reduceAdd,Below_,Facts,zH,zI,true_and,and_true] at hg;simp only [List.length_cons,List.length_nil,Nat.reduceAdd,textL,actL,dstAt,zA,zB,zK,if_true,Act.put,zE,zF,zG,hg];refine ⟨?_⟩
      clear hg
      go_wp2_with (first|(go_at_call 51;(with_reducible refine Calls.mono (HN.out _) ?_);rintro e w2 ⟨rfl,rfl⟩))
      go_ret
      have e3:(((f:Int) / 2) == 0)=false:=by rw [beq_eq_false_iff_ne];omega
      refine ⟨?_,hE.out⟩
      show Ending.returned (.bool ((f:Int) / 2 == 0))=_
      rw [e3,show (f / 2 == 0)=false from beq_eq_false_iff_ne.2 hc]
 | some n =>
   rw [hn] at HA HV5 HV1
   have hc:¬ f / 2=0:=fun h=>by rw [hz h] at hn;cases hn
   rw [u2 n hn hc]
   have e2:¬ ((f / 2:Nat):Int)=0:=by omega
   clear u1 u2 hn hz
   go_enter Tryz.func44,Tryz.ntmps44
   go_wp2_with fail
   refine region_fnV [[],[0],[0,1],[0,1,2],[],[4],[0,1,2,3,4,5],[0,1,2,3,4,5,6],[0,1,2,3,4,5,6,7],[0,1,2,3,4,5,6,7],[],[0,1,2,3,4,5,6,7,8,10],[0,1,2,3,4,5,6,7,8,9,10,11]] _ _ [] _ [⟨10,11,96,#[.int .i64 0,.int .i64 0,.int .i64 0,.int .i64 0,.int .i64 0],fun cs _=>cs=(ndW (f / 2) (some n)).cells⟩] [fun v _=>v=vPt S,fun v _=>v=vPt S,fun v _=>v=.pointer (some ⟨S,1,none⟩),fun v _=>v=vPt P,fun v _=>v=nv (f),fun v _=>v=nv ((f) / 2),fun v _=>v=.tuple #[ndW (f / 2) (some n),.bool (true)],fun v _=>v=.tuple #[ndW (f / 2) (some n),.bool (true)],fun v _=>v=ndW (f / 2) (some n),fun v _=>v=.bool (true),fun _ _=>True,fun _ _=>True,fun v _=>v=.bool (true)]
    (by kernel_rfl) (by kernel_rfl) (by simp) hS ?_ ?monoC ?okb ?dal ?fill ?plain ?fin
   · repeat (first|exact Lasting.nil|refine Lasting.cons (fun _ _ _ _ h=>h) ?_)
   case monoC =>
    intro b' hb' cs J K hJK
    simp only [List.mem_cons,List.not_mem_nil,or_false] at hb'
    subst hb'
    exact fun h=>h
   case okb =>
    intro b' hb'
    simp only [List.mem_cons,List.not_mem_nil,or_false] at hb'
    subst hb'
    exact ⟨by simp,⟨rfl,rfl,rfl⟩,⟨_,zeroB_eq ty_z96,rfl⟩,⟨rfl,rfl,_,rfl⟩,by simp,sizeB_eq ty_sz96⟩
   case dal =>
    intro b' hb' v' J
    simp only [List.mem_cons,List.not_mem_nil,or_false] at hb'
    subst hb'
    exact ⟨trivial,trivial⟩
   case fill =>
    intro b' hb' vals J hJ hg
    simp only [List.mem_cons,List.not_mem_nil,or_false] at hb'
    subst hb'
    simp only [zH,zI,Given,Facts] at hg
    refine ⟨ndW (f / 2) (some n),by simp only [storeArg,textL,actL,dstAt,opAt,zH,zI,zA,zB,zK,if_true,Act.put,zE,zF,zG,Act.eval,zD,zC,zJ,hg],HV5.out,HV1.out,rfl⟩
   case plain =>
    repeat' (first|exact trivial|apply And.intro)
    all_goals first
     | (refine .inl (by rfl))
     | ((refine .inr ?_;intro vals J bs w hg hJ hS;simp only [zH,zI,Given,Facts] at hg;simp only [textL,actL,dstAt,opAt,zH,zI,zA,zB,zK,if_true,Act.put,zE,zF,zG,hg];refine ⟨?_⟩;refine wpStep_of (fun K hK=>?_);have HK:=Lib.hid hK;clear hK;rw [if_pos (by rfl)];(first|((with_reducible refine atLoad ?_);first|((refine' wp_ldi1 (v:=_) hS hJ ?ha rfl ?hc ?_);(case ha=>first|exact ty_agg55);(case hc=>assumption)))|(go_wp2_with (first|(go_at_call 51;(with_reducible refine Calls.mono (HN.out _) ?_);rintro e w2 ⟨rfl,rfl⟩)|(go_at_call 50;((with_reducible refine Calls.mono (HA.out _ (PH.le.trans hJ hS.ile)) ?_);rintro e w2 ⟨rfl,hb2⟩;have hS2:=hS.below_ hb2;clear hS hb2;have hS:=hS2;clear hS2)))));( refine HK.out _ _ ⟨rfl,J,PH.le.refl _,hS,?_⟩ );clear HK;simp only [Facts,outOf,zH,zI,Act.put,zE,zF,zG,zD,zC,zA,zB,zJ]);done)
   case fin =>
    intro vals J bs w1 hJ hg hS hB
    cases hB with
    | cons h1 hB =>
    cases hB
    simp only [Bx.st,if_true] at h1
    obtain ⟨Y,cY,eY,rfl,zY,rfl⟩:=h1
    have e10:vals 10=vPt Y:=eY
    clear HA HV5 HV1 iS1
    have hS:=hS.less hJ
    simp only [List.nil_append,List.cons_append] at hS
    have hS:Sat w (heapOf w) [PH.one Y (.cells #[nv (f / 2),nv n.v,nv n.lo,nv n.hi,nv n.refs] 96)] w1:=hS
    simp only [List.length_cons,List.length_nil,Nat.reduceAdd,Below_,Facts,zH,zI,true_and,and_true] at hg;simp only [List.length_cons,List.length_nil,Nat.reduceAdd,textL,actL,dstAt,zA,zB,zK,if_true,Act.put,zE,zF,zG,hg];refine ⟨?_⟩
    clear hg
    simp only [e10]
    go_wp2_with (first|(go_at_call 51;(with_reducible refine Calls.mono (HN.out _) ?_);rintro e w2 ⟨rfl,rfl⟩)|(go_at_call 43;(with_reducible refine Calls.mono (HLv.out _ _ hS.ile) ?_);rintro e w2 ⟨rfl,rfl⟩)|((with_reducible refine atList ?_);first|((with_reducible refine isGuard ?_);  ((with_reducible refine guarded_yes ?hw ?_);case hw=>(simp only [Region.wanted,yielded,zC,zA,zB,zK,beq_self_eq_true];done)) )|((with_reducible refine isLoad ?_);( (refine ld1 0 hS rfl rfl ?ha rfl rfl rfl ?_;(case ha=>exact ty_agg3)) );(try simp only [Act.put,zE,zF,zG]))))
    have e3:(((f:Int) / 2) == 0)=false:=by rw [beq_eq_false_iff_ne];omega
    go_ret
    refine ⟨?_,hS.end_ (PH.le.refl _)⟩
    show Ending.returned (.bool ((f:Int) / 2 == 0 || decide (l<s.level n.v)))=_
    rw [e3]
    rfl
end
end Go.Proofs.YtdhkkkhnjooioaaGreat
namespace Go.Proofs.YtdhkkkhnjooioaaGreat
open Go.RowKit
theorem Sat.graft {E w w':World} {I:PH} {ms ns:List PH} (h:Sat E I ms w) (h':Sat w (heapOf w) ns w'):Sat E I (ns ++ ms) w':=by
 have off:∀ n ∈ ns,∀ (p:PH),p.le (heapOf w)→∀ b,n b=none∨p b=none:=fun n hn p hp b=>by
  rcases h'.sep n hn b with h1|h1
  · exact .inl h1
  · refine .inr ?_
    cases hpb:p b with
    | none=>rfl
    | some o=>rw [hp b o hpb] at h1;cases h1
 refine ⟨h'.os.trans h.os,h'.tape.trans h.tape,h'.output.trans h.output,fun b o hb=>h'.imm b o (h.imm b o hb),fun p hp=>?_,fun p hp b=>?_,List.pairwise_append.2 ⟨h'.dis,h.dis,fun p hp q hq b=>?_⟩,Nat.le_trans h.size h'.size⟩
 · rcases List.mem_append.1 hp with hp|hp
   · exact h'.own p hp
   · exact fun b o hb=>h'.imm b o (h.own p hp b o hb)
 · rcases List.mem_append.1 hp with hp|hp
   · exact off p hp I h.imm b
   · exact h.sep p hp b
 · exact off p hp q (h.own q hq) b
section
variable {w:World} {S:Nat} {s:G.St}
theorem sorder_any (h:StR (heapOf w) S s) {E:World} {I:PH} {ms:List PH} (hE:Sat E I ms w):Calls Tryz.prog 16 #[vPt S] w fun e w'=>∃ v m,e=.returned v∧OwnP m 3 1 v s.vars.length (s.vars.flatMap ivC)∧Sat E I (m::ms) w':=by
 obtain ⟨h0,L,P,vV,vL,vT,vC,gs,h1,h2,h3,h4,h5,h6,h7,h8,h9,h10,h11,h12,h13,h14⟩:=h
 have hn:=h0.vars
 have hlen:(s.vars.flatMap ivC).length=s.vars.length * 1:=flat_length ivC_len _
 have hone:∀ u ∈ s.vars.flatMap ivC,u.oneCell'=true:=fun u hu=>by
  obtain ⟨a,_,ha⟩:=List.mem_flatMap.1 hu
  simp only [ivC,List.mem_singleton] at ha
  subst ha;rfl
 obtain ⟨⟨A,c,rfl⟩,hV⟩:=h8
 have hcs:0<s.vars.length→∃ X off,A=some ⟨X,off,none⟩∧Cells (heapOf w) X off (s.vars.flatMap ivC):=fun hl=>by
  obtain ⟨X,c',e1,e2⟩:=hV hl
  injection e1 with e1
  refine ⟨X,0,e1,fun j v hj=>?_⟩
  rw [Nat.zero_add]
  have hfl:s.vars.flatMap ivC=s.vars.map fun n=>nv n:=by rw [List.flatMap_def];unfold ivC;induction s.vars with|nil=>rfl|cons a l ih=>simp_all
  rw [hfl,List.getElem?_map] at hj
  cases hx:s.vars[j]? with
  | none=>rw [hx] at hj;cases hj
  | some x=>rw [hx] at hj;cases hj;exact e2 j x hx
 have hS:=Sat.start w
 have HC:=Lib.hid hcs
 have HL:=Lib.hid hlen
 have H1:=Lib.hid hone
 have HE:=Lib.hid hE
 clear hcs hlen hone hE h2 h3 h4 h5 h7 h9 h10 h11 h12 h13 h14 h0 hV
 generalize s.vars.flatMap ivC=xs at *
 generalize s.vars.length=n at *
 go_enter Tryz.func16,Tryz.ntmps16
 go_wp2_with (first|((with_reducible refine isAppend ?_);(refine' apS (p:=_) (m:=_) (v:=_) (n:=_) (xs:=_) (news:=xs) 0 (.inl (PH.le.refl _)) hS rfl rfl rfl Tryz.underlying28 int_info rfl (by decide) rfl ?hown rfl HL.out HC.out H1.out ?h63 ?hby ?_);(case hown=>exact OwnP.lit _ _ 1 0 #[] (by decide) rfl);(case h63=>(unfold maxLen;omega));(case hby=>omega);clear hS;intro v1 m1 w1 hO hS;have HO:=Lib.hid hO;clear hO;(try simp only [zG] at hS);(try simp only [Act.put,zE,zF,zG]))|((with_reducible refine atList ?_);first|((with_reducible refine isLoad ?_);( ((refine' ldI1 (v:=_) hS rfl rfl ?ha rfl ?hb ?_);(case ha=>first|exact ty_agg28|exact ty_agg58);(case hb=>assumption)));(try simp only [Act.put,zE,zF,zG]))|((with_reducible refine isBuildSlice ?_);(refine' bsl hS ?hr ?_);(case hr=>(intro w0;go_simp;rfl));clear hS;intro XS w hS;(try simp only [Act.eval,zD,zC,zA,zB,zJ,Value.cells] at hS);(try simp only [Act.put,zE,zF,zG]))))
 go_ret
 have:=HO.out
 rw [Nat.zero_add] at this
 exact ⟨_,rfl,m1,by simpa using this,HE.out.graft hS⟩
end
end Go.Proofs.YtdhkkkhnjooioaaGreat
namespace Go.Proofs.YtdhkkkhnjooioaaGreat
open Go.RowKit
set_option maxRecDepth 100000 in
set_option maxHeartbeats 4000000 in
theorem ptake_full (E w:World) (I m:PH) (ms:List PH) (P:Nat) (p:G.Pl) (n:G.Nd) (hfr:p.free=[]) (hle:p.room<p.slots.length) (hP:PoolAt P p m) (hS:Sat E I (m::ms) w) :
 Calls Tryz.prog 75 #[.pointer (some ⟨P,0,none⟩),ndA 0 n] w fun e w'=>e=.returned (.tuple #[nv 0,.int .i64 7])∧Sat E I (m::ms) w':=by
 obtain ⟨hf,A0,cA0,T0,cT0,vF,mA,mT,mF,hbd,hA,hT,hF⟩:=hP
 obtain ⟨nF,cF,hvF,_⟩:=hF.shape
 subst hvF
 have hlen:=hf.len
 have hroom:=hf.room
 have hml:=G.many_le p.slots
 have hk0:p.free.length=0:=by rw [hfr];rfl
 have hfin:∀ w',Sat E I (PH.one P (.cells (plV p A0 cA0 T0 cT0 (.slice nF p.free.length cF)) 114)::mA::mT::mF::ms) w'→Sat E I (m::ms) w':=fun w' hS'=>by
  obtain ⟨m',hb',hS2⟩:=Sat.pack [PH.one P (.cells (plV p A0 cA0 T0 cT0 (.slice nF p.free.length cF)) 114),mA,mT,mF] hS'
  rw [hbd.1,← hb'.1]
  exact hS2
 have Hfin:=Lib.hid hfin
 have hS:=Sat.unpack hbd hS
 clear hfin hF hf hbd hfr hA hT
 simp only [plV,List.cons_append,List.nil_append] at hS Hfin
 rw [hk0] at hS Hfin
 generalize hid:p.slots.length=id at *
 have hdec:decide ((p.room:Int)<(id:Int))=true:=by rw [decide_eq_true_eq];omega
 have hdecN:decide (p.room<id)=true:=by rw [decide_eq_true_eq];omega
 go_enter Tryz.func75,Tryz.ntmps75
 go_wp2_with (first|((with_reducible refine atList ?_);first|((with_reducible refine isBoxD 3 ?_);refine bx hS rfl rfl rfl ?_;clear hS;intro X w hS;(try simp only [Act.eval,zD,zC,zA,zB,zJ,Value.cells] at hS);(try simp only [Act.put,zE,zF,zG]))|((with_reducible refine isLoad ?_);( (refine ld1 1 hS rfl rfl ?ha rfl rfl rfl ?_;(case ha =>  exact ty_agg28)) );(try simp only [Act.put,zE,zF,zG])) ))
 obtain ⟨I1,_,lX,hS1,bX⟩:=hS.ice
 obtain ⟨I2,l12,lP,hS2,bP⟩:=hS1.ice
 have iP0:I2.at P 0=some (nv p.room):=PH.at_le lP (at_one rfl)
 have iP1:I2.at P 1=some (.slice (some ⟨A0,0,none⟩) id cA0):=PH.at_le lP (at_one rfl)
 have HbX:=Lib.hid bX
 have HbP:=Lib.hid bP
 clear hS hS1 bX bP lX lP l12
 refine region_c1 [[],[0],[0,1],[0,1,2],[0,1,2,3],[],[5],[5,6],[5,6,7],[0,1,2,3,4,5,6,7,8]] E I2 _
  [fun v _=>v=vPt P,fun v _=>v=vPt P,fun v _=>v=.pointer (some ⟨P,1,none⟩),fun v _=>v=.slice (some ⟨A0,0,none⟩) id cA0,fun v _=>v=nv id,fun v _=>v=vPt P,fun v _=>v=vPt P,fun v _=>v=.pointer (some ⟨P,0,none⟩),fun v _=>v=nv p.room,fun v _=>v=.bool true] []
  (fun _ _ _ ns=>ns=mA::mT::mF::ms) (by kernel_rfl) (by kernel_rfl) (by decide) hS2 rfl ?last (fun _ _ _ _ _ _ h=>h) (fun _ _ _ _ _ _ h=>h) ?plain ?step ?fin
 case last=>repeat (first|exact Lasting.nil|refine Lasting.cons (fun _ _ _ _ h=>h) ?_)
 case plain =>
  (repeat' (first|exact trivial|apply And.intro)) <;>  (refine .inr ?_;intro s vals J bs w hstop hg hJ hS hG;clear hG;simp only [zH,zI,Given,Facts] at hg;simp only [textL,actL,dstAt,opAt,zH,zI,zA,zB,zK,if_true,Act.put,zE,zF,zG,hg];refine ⟨?_⟩;refine wpStep_of (fun K hK=>?_);have HK:=Lib.hid hK;clear hK;rw [if_pos (by rfl)];(first|((with_reducible refine atLoad ?_);first|((refine' wp_ldi1 (v:=_) hS hJ ?ha rfl ?hc ?_);(case ha=>first|exact ty_agg112|exact ty_agg3);(case hc=>assumption)))|(go_wp2_with (fail)));refine HK.out _ _ ⟨rfl,J,PH.le.refl _,hS,?_⟩;clear HK;simp only [Facts];simp only [outOf,zH,zI,Act.put,zE,zF,zG,zD,zC,zA,zB,zJ])
 case step=>trivial
 case fin =>
  intro vals J bs w hJ hg hS hG
  have hG:bs=_:=hG
  subst hG
  have hS:=hS.less hJ
  have hS:=(HbX.out _ _ (HbP.out _ _ hS)).drop
  clear HbX HbP iP0 iP1
  simp only [List.length_cons,List.length_nil,Nat.reduceAdd,Below_,Facts,zH,zI,true_and] at hg;simp only [List.length_cons,List.length_nil,Nat.reduceAdd,textL,actL,dstAt,zA,zB,zK,if_true,Act.put,zE,zF,zG,hg];refine ⟨?_⟩
  clear hg
  go_wp2_with (fail)
  go_ret2
  exact ⟨rfl,Hfin.out _ hS⟩
theorem ptake_some {E w:World} {I m:PH} {ms:List PH} {P:Nat} {p p':G.Pl} {n:G.Nd} {id:Nat} (ht:p.take n=some (some (p',id))) (hfit:Fits n) (hP:PoolAt P p m) (hS:Sat E I (m::ms) w) :
 Calls Tryz.prog 75 #[.pointer (some ⟨P,0,none⟩),ndA 0 n] w fun e w'=>e=.returned (.tuple #[nv id,.int .i64 0])∧∃ m',PoolAt P p' m'∧Sat E I (m'::ms) w':=by
 unfold G.Pl.take at ht
 cases hf:p.free.getLast? with
 | some i =>
   rw [hf] at ht
   simp only [] at ht
   split at ht
   · rename_i hc
     injection ht with ht;injection ht with ht;injection ht with h1 h2
     subst h1 h2
     refine ptake_free E w I m ms P p i n hf hc.1 hc.2.1 ?_ hfit hP hS
     have h3:=hc.2.2
     rw [List.getD_eq_getElem?_getD,List.getElem?_eq_getElem hc.2.1] at h3
     rw [List.getElem?_eq_getElem hc.2.1]
     simp only [zJ,Option.isNone_iff_eq_none] at h3
     rw [h3]
   · cases ht
 | none =>
   rw [hf] at ht
   simp only [] at ht
   split at ht
   · cases ht
   · rename_i hc
     injection ht with ht;injection ht with ht;injection ht with h1 h2
     subst h1 h2
     exact ptake_new E w I m ms P p n (List.getLast?_eq_none_iff.1 hf) (by omega) hfit hP hS
theorem ptake_none {E w:World} {I m:PH} {ms:List PH} {P:Nat} {p:G.Pl} {n:G.Nd} (ht:p.take n=some none) (hP:PoolAt P p m) (hS:Sat E I (m::ms) w) :
 Calls Tryz.prog 75 #[.pointer (some ⟨P,0,none⟩),ndA 0 n] w fun e w'=>e=.returned (.tuple #[nv 0,.int .i64 7])∧Sat E I (m::ms) w':=by
 unfold G.Pl.take at ht
 cases hf:p.free.getLast? with
 | some i=>rw [hf] at ht;simp only [] at ht;split at ht <;> cases ht
 | none =>
   rw [hf] at ht
   simp only [] at ht
   split at ht
   · rename_i hc
     exact ptake_full E w I m ms P p n (List.getLast?_eq_none_iff.1 hf) hc hP hS
   · cases ht
theorem StAt.close {E w:World} {I:PH} {ms:List PH} {S:Nat} {s:G.St} {L P:Nat} {vV vL vT vC:Value} {gs:List Nat} {mV mL mP mT mC:PH} {tms:List PH} (h0:StFit s)
 (hV:OwnP mV 3 1 vV s.vars.length (s.vars.flatMap ivC)) (hL:OwnP mL 3 1 vL s.lev.length (s.lev.flatMap ivC)) (hP:PoolAt P s.pl mP) (hT:OwnP mT 65 1 vT s.tabs.length (gs.flatMap ptC)) (hC:OwnP mC 3 1 vC s.cnt.length (s.cnt.flatMap ivC))
 (hgs:gs.length=s.tabs.length) (htm:tms.length=s.tabs.length) (htab:∀ (v:Nat) g t tm,gs[v]?=some g→s.tabs[v]?=some t→tms[v]?=some tm→TabAt g t tm)
 (hS:Sat E I (PH.one S (.cells #[vPt L,vPt P,vT,vC,nv s.dead] 64)::PH.one L (.cells #[vV,vL] 61)::mV::mL::mP::mT::mC::(tms ++ ms)) w):∃ m',StAt S s m'∧Sat E I (m'::ms) w:=by
 obtain ⟨m',hb,h⟩:=Sat.pack (PH.one S (.cells #[vPt L,vPt P,vT,vC,nv s.dead] 64)::PH.one L (.cells #[vV,vL] 61)::mV::mL::mP::mT::mC::tms) (ms:=ms) hS
 exact ⟨m',⟨h0,L,P,vV,vL,vT,vC,gs,mV,mL,mP,mT,mC,tms,hb,hV,hL,hP,hT,hC,hgs,htm,htab⟩,h⟩
theorem iv_one (n:Nat):∀ u ∈ (Value.cells (nv n)).toList,u.oneCell'=true:=by simp [Value.cells,Value.oneCell',nv]
def rowLen (w:World) (S:Nat):Nat:=match w.cell? ⟨S,3,none⟩ with|some (.slice _ n _)=>n|_=>0
theorem rowLen_of {w:World} {S n c:Nat} {A:Option Addr} (h:w.cell? ⟨S,3,none⟩=some (.slice A n c)):rowLen w S=n:=by unfold rowLen;rw [h]
end Go.Proofs.YtdhkkkhnjooioaaGreat
