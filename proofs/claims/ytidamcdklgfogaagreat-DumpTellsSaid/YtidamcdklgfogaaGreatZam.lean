import Derived.Test.YtidamcdklgfogaaGreatZab
import Derived.Test.YtidamcdklgfogaaGreatZal
import Derived.Test.YtidamcdklgfogaaGreatZag
import Derived.Test.YtidamcdklgfogaaGreatZaj
set_option linter.unusedSimpArgs false
set_option linter.unusedVariables false
set_option maxRecDepth 100000
set_option maxHeartbeats 1000000
namespace Go.Proofs.YtidamcdklgfogaaGreat
section
open Go.RowKit
section
variable {w:World} {S:Nat} {s:G.St}
theorem ssplit_any (h:StR (Qa w) S s) (f v:Nat) (hf:f<9223372036854775808):Calls Tryz.prog 157 #[vPt S,nv f,nv v] w fun e w'=>e=.returned (.tuple #[nv (s.split f v).1,nv (s.split f v).2])∧Below w.heap.size w w':=by
 cases hn:s.nd (f / 2) with
 | none =>
   have hr:s.split f v=(f,f):=by rw [G.split_eq,hn]
   have HC:=yH (sat_none h f hf hn)
   rw [hr]
   clear h
   go_enter Tryz.func157,Tryz.ntmps157
   go_wp2_with (go_at_call 94;(with_reducible refine yI HC.out ?_);rintro e w2 ⟨rfl,hE⟩;have HE:=yH hE;clear hE)
   go_ret2
   exact ⟨rfl,HE.out⟩
 | some n =>
   have HC:=yH (sat_some h f hf hn)
   by_cases hv:n.v=v
   · have hr:s.split f v=(G.flipIf n.lo (f % 2 == 1),G.flipIf n.hi (f % 2 == 1)):=by rw [G.split_eq,hn];exact if_pos hv
     rw [hr]
     rw [hv] at HC
     clear h
     go_enter Tryz.func157,Tryz.ntmps157
     go_wp2_with (go_at_call 94;(with_reducible refine yI HC.out ?_);rintro e w2 ⟨rfl,hE⟩;have HE:=yH hE;clear hE)
     go_ret2
     exact ⟨rfl,HE.out⟩
   · have hr:s.split f v=(f,f):=by rw [G.split_eq,hn];exact if_neg hv
     have hv':¬ (n.v:Int)=(v:Int):=by omega
     rw [hr]
     clear h
     go_enter Tryz.func157,Tryz.ntmps157
     go_wp2_with (go_at_call 94;(with_reducible refine yI HC.out ?_);rintro e w2 ⟨rfl,hE⟩;have HE:=yH hE;clear hE)
     go_ret2
     exact ⟨rfl,HE.out⟩
theorem sunder_any (h:StR (Qa w) S s) (f:Nat) (l:Int) (hf:f<9223372036854775808):Calls Tryz.prog 132 #[vPt S,nv f,.int .i64 l] w fun e w'=>e=.returned (.bool (s.under f l))∧Below w.heap.size w w':=by
 have hR:=h
 obtain ⟨h0,L,P,vV,vL,vT,vC,gs,h1,iS1,h3,h4,h5,h6,h7,h8,h9,hP,h11,h12,h13,h14⟩:=h
 have HN:=yH (fun w':World=>Yd w' f hf)
 have HA:=yH (fun (w':World) (hle:(Qa w).le (Qa w'))=>pat_nat (hP.le hle) (f / 2))
 have HV5:=yH (Ze (f / 2) (s.pl.nd (f / 2))).1
 have HV1:=yH (Ze (f / 2) (s.pl.nd (f / 2))).2
 have HLv:=yH (fun (w':World) (v:Int) (hle:(Qa w).le (Qa w'))=>slevel_any (hR.le hle) v)
 have hz:f / 2=0→s.pl.nd (f / 2)=none:=fun h=>by rw [h];exact G.Pl.nd_zero _
 clear h0 h1 h3 h4 h5 h6 h7 h8 h9 hP h11 h12 h13 h14 hR
 have hS:Sat w (Qa w) ([] ++ []) w:=Sat.start w
 have u1:s.pl.nd (f / 2)=none→s.under f l=(f / 2 == 0):=fun ho=>by unfold G.St.under G.St.nd;simp [ho]
 have u2:∀ n,s.pl.nd (f / 2)=some n→¬ f / 2=0→s.under f l=decide (s.level n.v > l):=fun n ho hc=>by unfold G.St.under G.St.nd;simp [ho,hc]
 cases hn:s.pl.nd (f / 2) with
 | none =>
   rw [hn] at HA HV5 HV1
   rw [u1 hn]
   clear u1 u2 hn hz HLv
   go_enter Tryz.func132,Tryz.ntmps132
   go_wp2_with fail
   refine Zw [[],[0],[0,1],[0,1,2],[],[4],[0,1,2,3,4,5],[0,1,2,3,4,5,6],[0,1,2,3,4,5,6,7],[0,1,2,3,4,5,6,7],[],[0,1,2,3,4,5,6,7,8,10],[0,1,2,3,4,5,6,7,8,9,10,11]] _ _ [] _ [⟨10,11,194,#[.int .i64 0,.int .i64 0,.int .i64 0,.int .i64 0,.int .i64 0],fun cs _=>cs=(ndW (f / 2) none).cells⟩] [fun v _=>v=vPt S,fun v _=>v=vPt S,fun v _=>v=.pointer (some ⟨S,1,none⟩),fun v _=>v=vPt P,fun v _=>v=nv (f),fun v _=>v=nv ((f) / 2),fun v _=>v=.tuple #[ndW (f / 2) none,.bool (false)],fun v _=>v=.tuple #[ndW (f / 2) none,.bool (false)],fun v _=>v=ndW (f / 2) none,fun v _=>v=.bool (false),fun _ _=>True,fun _ _=>True,fun v _=>v=.bool (false)]
    (by kernel_rfl) (by kernel_rfl) (by simp) hS ?_ ?monoC ?okb ?dal ?fill ?plain ?fin
   · repeat (first|exact Lasting.nil|refine Lasting.cons (fun _ _ _ _ h=>h) ?_)
   case monoC =>
    intro b' hb' cs J K hJK
    simp only [List.mem_cons,List.not_mem_nil,or_false] at hb'
    subst hb'
    exact fun h=>h
   case okb =>
    intro b' hb'
    simp only [List.mem_cons,List.not_mem_nil,or_false] at hb'
    subst hb'
    exact ⟨by simp,⟨rfl,rfl,rfl⟩,⟨_,Xm Zp,rfl⟩,⟨rfl,rfl,_,rfl⟩,by simp,Xn Qt⟩
   case dal =>
    intro b' hb' v' J
    simp only [List.mem_cons,List.not_mem_nil,or_false] at hb'
    subst hb'
    exact ⟨trivial,trivial⟩
   case fill =>
    intro b' hb' vals J hJ hg
    simp only [List.mem_cons,List.not_mem_nil,or_false] at hb'
    subst hb'
    simp only [zH,zI,Given,Facts] at hg
    refine ⟨ndW (f / 2) none,by simp only [Zt,Qd,Qh,Qe,Qj,zH,zI,zA,zB,zK,if_true,Act.put,zE,zF,zG,Act.eval,zD,zC,zJ,hg],HV5.out,HV1.out,rfl⟩
   case plain =>
    repeat' (first|exact trivial|apply And.intro)
    all_goals first
     | (refine .inl (by rfl))
     | ((refine .inr ?_;intro vals J bs w hg hJ hS;simp only [zH,zI,Given,Facts] at hg;simp only [Qd,Qh,Qe,Qj,zH,zI,zA,zB,zK,if_true,Act.put,zE,zF,zG,hg];refine ⟨?_⟩;refine Qg (fun K hK=>?_);have HK:=yH hK;clear hK;rw [if_pos (by rfl)];(first|((with_reducible refine Qs ?_);first|((refine' Qq (v:=_) hS hJ ?ha rfl ?hc ?_);(case ha=>first|exact Kg);(case hc=>assumption)))|(go_wp2_with (first|(go_at_call 49;(with_reducible refine yI (HN.out _) ?_);rintro e w2 ⟨rfl,rfl⟩)|(go_at_call 128;((with_reducible refine yI (HA.out _ (PH.le.trans hJ hS.ile)) ?_);rintro e w2 ⟨rfl,hb2⟩;have hS2:=hS.below_ hb2;clear hS hb2;have hS:=hS2;clear hS2)))));( refine HK.out _ _ ⟨rfl,J,PH.le.refl _,hS,?_⟩ );clear HK;simp only [Facts,Qo,zH,zI,Act.put,zE,zF,zG,zD,zC,zA,zB,zJ]);done)
   case fin =>
    intro vals J bs w hJ hg hS hB
    have hE:=yH (hS.end_ hJ)
    clear hB hS HA HV5 HV1 iS1
    by_cases hc:f / 2=0
    · rw [hc] at HN
      simp only [yB,yC,Nat.reduceAdd,Below_,Facts,zH,zI,true_and,and_true] at hg;simp only [yB,yC,Nat.reduceAdd,Qd,Qh,Qe,zA,zB,zK,if_true,Act.put,zE,zF,zG,hg];refine ⟨?_⟩
      clear hg
      go_wp2_with (first|(go_at_call 49;(with_reducible refine yI (HN.out _) ?_);rintro e w2 ⟨rfl,rfl⟩))
      go_ret
      exact ⟨by rw [hc];rfl,hE.out⟩
    · have e2:¬ ((f / 2:Nat):Int)=0:=by omega
      simp only [yB,yC,Nat.reduceAdd,Below_,Facts,zH,zI,true_and,and_true] at hg;simp only [yB,yC,Nat.reduceAdd,Qd,Qh,Qe,zA,zB,zK,if_true,Act.put,zE,zF,zG,hg];refine ⟨?_⟩
      clear hg
      go_wp2_with (first|(go_at_call 49;(with_reducible refine yI (HN.out _) ?_);rintro e w2 ⟨rfl,rfl⟩))
      go_ret
      have e3:(((f:Int) / 2) == 0)=false:=by rw [beq_eq_false_iff_ne];omega
      refine ⟨?_,hE.out⟩
      show Ending.returned (.bool ((f:Int) / 2 == 0))=_
      rw [e3,show (f / 2 == 0)=false from beq_eq_false_iff_ne.2 hc]
 | some n =>
   rw [hn] at HA HV5 HV1
   have hc:¬ f / 2=0:=fun h=>by rw [hz h] at hn;cases hn
   rw [u2 n hn hc]
   have e2:¬ ((f / 2:Nat):Int)=0:=by omega
   clear u1 u2 hn hz
   go_enter Tryz.func132,Tryz.ntmps132
   go_wp2_with fail
   refine Zw [[],[0],[0,1],[0,1,2],[],[4],[0,1,2,3,4,5],[0,1,2,3,4,5,6],[0,1,2,3,4,5,6,7],[0,1,2,3,4,5,6,7],[],[0,1,2,3,4,5,6,7,8,10],[0,1,2,3,4,5,6,7,8,9,10,11]] _ _ [] _ [⟨10,11,194,#[.int .i64 0,.int .i64 0,.int .i64 0,.int .i64 0,.int .i64 0],fun cs _=>cs=(ndW (f / 2) (some n)).cells⟩] [fun v _=>v=vPt S,fun v _=>v=vPt S,fun v _=>v=.pointer (some ⟨S,1,none⟩),fun v _=>v=vPt P,fun v _=>v=nv (f),fun v _=>v=nv ((f) / 2),fun v _=>v=.tuple #[ndW (f / 2) (some n),.bool (true)],fun v _=>v=.tuple #[ndW (f / 2) (some n),.bool (true)],fun v _=>v=ndW (f / 2) (some n),fun v _=>v=.bool (true),fun _ _=>True,fun _ _=>True,fun v _=>v=.bool (true)]
    (by kernel_rfl) (by kernel_rfl) (by simp) hS ?_ ?monoC ?okb ?dal ?fill ?plain ?fin
   · repeat (first|exact Lasting.nil|refine Lasting.cons (fun _ _ _ _ h=>h) ?_)
   case monoC =>
    intro b' hb' cs J K hJK
    simp only [List.mem_cons,List.not_mem_nil,or_false] at hb'
    subst hb'
    exact fun h=>h
   case okb =>
    intro b' hb'
    simp only [List.mem_cons,List.not_mem_nil,or_false] at hb'
    subst hb'
    exact ⟨by simp,⟨rfl,rfl,rfl⟩,⟨_,Xm Zp,rfl⟩,⟨rfl,rfl,_,rfl⟩,by simp,Xn Qt⟩
   case dal =>
    intro b' hb' v' J
    simp only [List.mem_cons,List.not_mem_nil,or_false] at hb'
    subst hb'
    exact ⟨trivial,trivial⟩
   case fill =>
    intro b' hb' vals J hJ hg
    simp only [List.mem_cons,List.not_mem_nil,or_false] at hb'
    subst hb'
    simp only [zH,zI,Given,Facts] at hg
    refine ⟨ndW (f / 2) (some n),by simp only [Zt,Qd,Qh,Qe,Qj,zH,zI,zA,zB,zK,if_true,Act.put,zE,zF,zG,Act.eval,zD,zC,zJ,hg],HV5.out,HV1.out,rfl⟩
   case plain =>
    repeat' (first|exact trivial|apply And.intro)
    all_goals first
     | (refine .inl (by rfl))
     | ((refine .inr ?_;intro vals J bs w hg hJ hS;simp only [zH,zI,Given,Facts] at hg;simp only [Qd,Qh,Qe,Qj,zH,zI,zA,zB,zK,if_true,Act.put,zE,zF,zG,hg];refine ⟨?_⟩;refine Qg (fun K hK=>?_);have HK:=yH hK;clear hK;rw [if_pos (by rfl)];(first|((with_reducible refine Qs ?_);first|((refine' Qq (v:=_) hS hJ ?ha rfl ?hc ?_);(case ha=>first|exact Kg);(case hc=>assumption)))|(go_wp2_with (first|(go_at_call 49;(with_reducible refine yI (HN.out _) ?_);rintro e w2 ⟨rfl,rfl⟩)|(go_at_call 128;((with_reducible refine yI (HA.out _ (PH.le.trans hJ hS.ile)) ?_);rintro e w2 ⟨rfl,hb2⟩;have hS2:=hS.below_ hb2;clear hS hb2;have hS:=hS2;clear hS2)))));( refine HK.out _ _ ⟨rfl,J,PH.le.refl _,hS,?_⟩ );clear HK;simp only [Facts,Qo,zH,zI,Act.put,zE,zF,zG,zD,zC,zA,zB,zJ]);done)
   case fin =>
    intro vals J bs w1 hJ hg hS hB
    cases hB with
    | cons h1 hB =>
    cases hB
    simp only [Bx.st,if_true] at h1
    obtain ⟨Y,cY,eY,rfl,zY,rfl⟩:=h1
    have e10:vals 10=vPt Y:=eY
    clear HA HV5 HV1 iS1
    have hS:=hS.less hJ
    simp only [List.nil_append,List.cons_append] at hS
    have hS:Sat w (Qa w) [PH.one Y (.cells #[nv (f / 2),nv n.v,nv n.lo,nv n.hi,nv n.refs] 194)] w1:=hS
    simp only [yB,yC,Nat.reduceAdd,Below_,Facts,zH,zI,true_and,and_true] at hg;simp only [yB,yC,Nat.reduceAdd,Qd,Qh,Qe,zA,zB,zK,if_true,Act.put,zE,zF,zG,hg];refine ⟨?_⟩
    clear hg
    simp only [e10]
    go_wp2_with (first|(go_at_call 49;(with_reducible refine yI (HN.out _) ?_);rintro e w2 ⟨rfl,rfl⟩)|(go_at_call 71;(with_reducible refine yI (HLv.out _ _ hS.ile) ?_);rintro e w2 ⟨rfl,rfl⟩)|((with_reducible refine Qc ?_);first|((with_reducible refine Qp ?_);  ((with_reducible refine Qi ?hw ?_);case hw=>(simp only [Region.wanted,yielded,zC,zA,zB,zK,beq_self_eq_true];done)) )|((with_reducible refine Qb ?_);( (refine ld1 0 hS rfl rfl ?ha rfl rfl rfl ?_;(case ha=>exact Qf)) );(try simp only [Act.put,zE,zF,zG]))))
    have e3:(((f:Int) / 2) == 0)=false:=by rw [beq_eq_false_iff_ne];omega
    go_ret
    refine ⟨?_,hS.end_ (PH.le.refl _)⟩
    show Ending.returned (.bool ((f:Int) / 2 == 0 || decide (l<s.level n.v)))=_
    rw [e3]
    rfl
end
end
section
open Go.RowKit
theorem Sat.graft {E w w':World} {I:PH} {ms ns:List PH} (h:Sat E I ms w) (h':Sat w (Qa w) ns w'):Sat E I (ns ++ ms) w':=by
 have off:∀ n ∈ ns,∀ (p:PH),p.le (Qa w)→∀ b,n b=none∨p b=none:=fun n hn p hp b=>by
  rcases h'.sep n hn b with h1|h1
  · exact .inl h1
  · refine .inr ?_
    cases hpb:p b with
    | none=>rfl
    | some o=>rw [hp b o hpb] at h1;cases h1
 refine ⟨h'.os.trans h.os,h'.tape.trans h.tape,h'.output.trans h.output,fun b o hb=>h'.imm b o (h.imm b o hb),fun p hp=>?_,fun p hp b=>?_,List.pairwise_append.2 ⟨h'.dis,h.dis,fun p hp q hq b=>?_⟩,Nat.le_trans h.size h'.size⟩
 · rcases List.mem_append.1 hp with hp|hp
   · exact h'.own p hp
   · exact fun b o hb=>h'.imm b o (h.own p hp b o hb)
 · rcases List.mem_append.1 hp with hp|hp
   · exact off p hp I h.imm b
   · exact h.sep p hp b
 · exact off p hp q (h.own q hq) b
section
variable {w:World} {S:Nat} {s:G.St}
theorem sorder_any (h:StR (Qa w) S s) {E:World} {I:PH} {ms:List PH} (hE:Sat E I ms w):Calls Tryz.prog 57 #[vPt S] w fun e w'=>∃ v m,e=.returned v∧OwnP m 3 1 v s.vars.length (s.vars.flatMap ivC)∧Sat E I (m::ms) w':=by
 obtain ⟨h0,L,P,vV,vL,vT,vC,gs,h1,h2,h3,h4,h5,h6,h7,h8,h9,h10,h11,h12,h13,h14⟩:=h
 have hn:=h0.vars
 have hlen:(s.vars.flatMap ivC).length=s.vars.length * 1:=Zq Zn _
 have hone:∀ u ∈ s.vars.flatMap ivC,u.oneCell'=true:=fun u hu=>by
  obtain ⟨a,_,ha⟩:=List.mem_flatMap.1 hu
  simp only [ivC,List.mem_singleton] at ha
  subst ha;rfl
 obtain ⟨⟨A,c,rfl⟩,hV⟩:=h8
 have hcs:0<s.vars.length→∃ X off,A=some ⟨X,off,none⟩∧Cells (Qa w) X off (s.vars.flatMap ivC):=fun hl=>by
  obtain ⟨X,c',e1,e2⟩:=hV hl
  injection e1 with e1
  refine ⟨X,0,e1,fun j v hj=>?_⟩
  rw [Nat.zero_add]
  have hfl:s.vars.flatMap ivC=s.vars.map fun n=>nv n:=by rw [List.flatMap_def];unfold ivC;induction s.vars with|nil=>rfl|cons a l ih=>simp_all
  rw [hfl,List.getElem?_map] at hj
  cases hx:s.vars[j]? with
  | none=>rw [hx] at hj;cases hj
  | some x=>rw [hx] at hj;cases hj;exact e2 j x hx
 have hS:=Sat.start w
 have HC:=yH hcs
 have HL:=yH hlen
 have H1:=yH hone
 have HE:=yH hE
 clear hcs hlen hone hE h2 h3 h4 h5 h7 h9 h10 h11 h12 h13 h14 h0 hV
 generalize s.vars.flatMap ivC=xs at *
 generalize s.vars.length=n at *
 go_enter Tryz.func57,Tryz.ntmps57
 go_wp2_with (first|((with_reducible refine isAppend ?_);(refine' apS (p:=_) (m:=_) (v:=_) (n:=_) (xs:=_) (news:=xs) 0 (.inl (PH.le.refl _)) hS rfl rfl rfl Tryz.underlying23 int_info rfl (by decide) rfl ?hown rfl HL.out HC.out H1.out ?h63 ?hby ?_);(case hown=>exact OwnP.lit _ _ 1 0 #[] (by decide) rfl);(case h63=>(unfold maxLen;omega));(case hby=>omega);clear hS;intro v1 m1 w1 hO hS;have HO:=yH hO;clear hO;(try simp only [zG] at hS);(try simp only [Act.put,zE,zF,zG]))|((with_reducible refine Qc ?_);first|((with_reducible refine Qb ?_);( ((refine' Ka (v:=_) hS rfl rfl ?ha rfl ?hb ?_);(case ha=>first|exact Kn|exact ty_agg160);(case hb=>assumption)));(try simp only [Act.put,zE,zF,zG]))|((with_reducible refine Kq ?_);(refine' bsl hS ?hr ?_);(case hr=>(intro w0;go_simp;rfl));clear hS;intro XS w hS;(try simp only [Act.eval,zD,zC,zA,zB,zJ,Value.cells] at hS);(try simp only [Act.put,zE,zF,zG]))))
 go_ret
 have:=HO.out
 rw [Nat.zero_add] at this
 exact ⟨_,rfl,m1,by simpa using this,HE.out.graft hS⟩
end
end
section
open Go.RowKit
def meC (o:Option G.Me):List Value:=match o with
 | none=>[nv 0,nv 0,nv 0,nv 0,nv 0,.bool false]
 | some e=>[nv e.op,nv e.a,nv e.b,nv e.c,nv e.r,.bool true]
theorem meC_len (o:Option G.Me):(meC o).length=6:=by unfold meC;split <;> rfl
def MeFit (me:G.Memo):Prop:=∀ i e,me i=some e→e.op<4611686018427387904∧e.a<4611686018427387904∧e.b<4611686018427387904∧e.c<4611686018427387904∧e.r<4611686018427387904
def Yj (X:Nat) (me:G.Memo) (m:PH):Prop:=MeFit me∧∃ vE mE,∃ a f:Int,Bd m [PH.one X (.cells #[.int .i64 4096,vE,.int .i64 a,.int .i64 f] 184),mE] ∧
 ((vE=.slice none 0 0∧mE=(fun _=>none)∧me=G.Memo.none)∨∃ A c,vE=.slice (some ⟨A,0,none⟩) 4096 c∧OwnP mE 211 6 vE 4096 ((List.range 4096).flatMap fun i=>meC (me i)))
def HsR (l:List (Rw Int)) (hs:List (Int × Nat)):Prop:=l.map (fun r=>(r.k,r.v))=hs.map (fun p=>(p.1,nv p.2))
theorem HsR.get {l:List (Rw Int)} {hs:List (Int × Nat)} (h:HsR l hs) (x:Int):getR l x=((hs.find? fun p=>p.1 == x).map (·.2)).map nv:=by
 unfold HsR at h
 induction l generalizing hs with
 | nil =>
   cases hs with
   | nil=>rfl
   | cons p hs=>cases h
 | cons r l ih =>
   cases hs with
   | nil=>cases h
   | cons p hs =>
     simp only [List.map_cons,List.cons.injEq,Prod.mk.injEq] at h
     obtain ⟨⟨h1,h2⟩,h3⟩:=h
     have ih:=ih h3
     unfold getR at ih ⊢
     by_cases e:r.k=x
     · rw [List.find?_cons_of_pos (by simpa using e),List.find?_cons_of_pos (by simpa [← h1] using e)];simp [h2]
     · rw [List.find?_cons_of_neg (by simpa using e),List.find?_cons_of_neg (by simpa [← h1] using e)];exact ih
theorem HsR.len {l:List (Rw Int)} {hs:List (Int × Nat)} (h:HsR l hs):l.length=hs.length:=by have:=congrArg List.length h;simpa using this
def HsAt (H:Nat) (hs:List (Int × Nat)) (m:PH):Prop:=∃ l clock,m=PH.one H (Qu ikey l clock)∧MapOk l clock∧HsR l hs
def gevC (e:G.Ev):List Value:=[.int .i64 e.after,.int .i64 e.kind,.int .i64 e.level]
def WtR (I:PH) (v:Value) (ws:List G.Ev) (fresh:Bool):Prop:=(∃ A c,v=.slice A ws.length c)∧(0<ws.length→∃ X off c,v=.slice (some ⟨X,off,none⟩) ws.length c∧ws.length≤c∧∀ (i:Nat) e,ws[i]?=some e→Cells I X (off+i * 3) (gevC e))∧(fresh=true→v=.slice none 0 0∧ws=[])
theorem WtR.le {I J:PH} {v:Value} {ws:List G.Ev} {fresh:Bool} (h:WtR I v ws fresh) (hJ:I.le J):WtR J v ws fresh:=⟨h.1,fun hl=>by
 obtain ⟨X,off,c,h1,h3,h4⟩:=h.2.1 hl
 exact ⟨X,off,c,h1,h3,fun i e hi=>(h4 i e hi).le hJ⟩,h.2.2⟩
def MgFit (m:G.Mg):Prop:=m.next≤G.big∧-9223372036854775808≤m.calls∧m.calls≤9223372036854775807
def MgAt (D:Nat) (m:G.Mg) (p:PH):Prop:=MgFit m∧∃ S M H wv mS mM mH mW,Bd p [PH.one D (.cells (Yn S M H (m.next:Int) wv m.calls) 117),mS,mM,mH,mW]∧StAt S m.s mS∧Yj M m.me mM∧HsAt H m.hs mH∧WtR mW wv m.waits m.fresh
def MgR (I:PH) (D:Nat) (m:G.Mg):Prop:=MgFit m∧∃ S M H wv,I.at D 0=some (vPt S)∧I.at D 1=some (vPt M)∧I.at D 2=some (.map (some H))∧I.at D 3=some (.int .i64 (m.next:Int))∧I.at D 4=some wv∧I.at D 5=some (.int .i64 m.calls)∧StR I S m.s∧(∃ l clock,I H=some (Qu ikey l clock)∧HsR l m.hs)∧WtR I wv m.waits m.fresh
theorem MgR.le {I J:PH} {D:Nat} {m:G.Mg} (h:MgR I D m) (hJ:I.le J):MgR J D m:=by
 obtain ⟨h0,S,M,H,wv,h1,h2,h3,h4,h5,h6,h7,⟨l,clock,h8,h9⟩,h10⟩:=h
 exact ⟨h0,S,M,H,wv,PH.at_le hJ h1,PH.at_le hJ h2,PH.at_le hJ h3,PH.at_le hJ h4,PH.at_le hJ h5,PH.at_le hJ h6,h7.le hJ,⟨l,clock,hJ _ _ h8,h9⟩,h10.le hJ⟩
theorem MgAt.read {D:Nat} {m:G.Mg} {p:PH} (h:MgAt D m p):MgR p D m:=by
 obtain ⟨h0,S,M,H,wv,mS,mM,mH,mW,⟨rfl,hd⟩,hS,hM,⟨l,clock,rfl,hl,hr⟩,hW⟩:=h
 have hm:∀ q ∈ [PH.one D (.cells (Yn S M H (m.next:Int) wv m.calls) 117),mS,mM,PH.one H (Qu ikey l clock),mW],q.le (PH.all [PH.one D (.cells (Yn S M H (m.next:Int) wv m.calls) 117),mS,mM,PH.one H (Qu ikey l clock),mW]):=fun q hq=>PH.all_mem hd hq
 generalize PH.all _=A at *
 have l0:=hm _ (.head _)
 refine ⟨h0,S,M,H,wv,PH.at_le l0 (Qk rfl),PH.at_le l0 (Qk rfl),PH.at_le l0 (Qk rfl),PH.at_le l0 (Qk rfl),PH.at_le l0 (Qk rfl),PH.at_le l0 (Qk rfl),hS.read.le (hm mS (by simp)),⟨l,clock,hm _ (by simp) H _ (PH.one_self _ _),hr⟩,hW.le (hm mW (by simp))⟩
theorem MgAt.fit {D:Nat} {m:G.Mg} {p:PH} (h:MgAt D m p):MgFit m:=h.1
theorem MgAt.open_ {E w:World} {I:PH} {ms:List PH} {D:Nat} {m:G.Mg} {p:PH} (h:MgAt D m p) (hS:Sat E I (p::ms) w) :
  ∃ S M H wv mS mM mH mW,StAt S m.s mS∧Yj M m.me mM∧HsAt H m.hs mH∧WtR mW wv m.waits m.fresh∧Sat E I (PH.one D (.cells (Yn S M H (m.next:Int) wv m.calls) 117)::mS::mM::mH::mW::ms) w:=by
 obtain ⟨h0,S,M,H,wv,mS,mM,mH,mW,hb,h1,h2,h3,h4⟩:=h
 exact ⟨S,M,H,wv,mS,mM,mH,mW,h1,h2,h3,h4,Sat.unpack hb hS⟩
theorem MgAt.close {E w:World} {I:PH} {ms:List PH} {D S M H:Nat} {m:G.Mg} {wv:Value} {mS mM mH mW:PH} (h0:MgFit m) (h1:StAt S m.s mS) (h2:Yj M m.me mM) (h3:HsAt H m.hs mH) (h4:WtR mW wv m.waits m.fresh)
  (hS:Sat E I (PH.one D (.cells (Yn S M H (m.next:Int) wv m.calls) 117)::mS::mM::mH::mW::ms) w):∃ p,MgAt D m p∧Sat E I (p::ms) w:=by
 obtain ⟨p,hb,hS'⟩:=Sat.pack [PH.one D (.cells (Yn S M H (m.next:Int) wv m.calls) 117),mS,mM,mH,mW] hS
 exact ⟨p,⟨h0,S,M,H,wv,mS,mM,mH,mW,hb,h1,h2,h3,h4⟩,hS'⟩
section
variable {w:World} {D:Nat} {m:G.Mg}
theorem mVars_any (h:MgR (Qa w) D m):Calls Tryz.prog 59 #[vPt D] w fun e w'=>e=.returned (nv m.s.vars.length)∧w=w':=by
 obtain ⟨h0,S,M,H,wv,h1,h2,h3,h4,h5,h6,h7,h8,h9⟩:=h
 have hS:=Sat.start w
 have hc:=svars_any h7
 clear h2 h3 h4 h5 h6 h7 h8 h9 h0
 go_enter Tryz.func59,Tryz.ntmps59
 go_wp2_with (first|(go_at_call 101;(with_reducible refine yI hc ?_);rintro e w9 ⟨rfl,rfl⟩)|((with_reducible refine Qc ?_);first|((with_reducible refine Qb ?_);( ((refine' Ka (v:=_) hS rfl rfl ?ha rfl ?hb ?_);(case ha=>exact Qr);(case hb=>assumption)));(try simp only [Act.put,zE,zF,zG]))))
 go_ret
 exact ⟨rfl,rfl⟩
end
end
end Go.Proofs.YtidamcdklgfogaaGreat
