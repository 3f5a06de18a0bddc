import Derived.Test.YtdhkkkhnjooioaaGreatZak
set_option linter.unusedSimpArgs false
set_option linter.unusedVariables false
namespace Go.Proofs.YtdhkkkhnjooioaaGreat
open Go.RowKit
theorem G.Pl.isI_nat (p:G.Pl) (id:Nat):p.isI (id:Int)=(p.nd id).isSome:=by
 unfold G.Pl.isI
 rw [Int.toNat_natCast]
 simp
def ndW (id:Nat) (o:Option G.Nd):Value:=.agg (ndC (o,id)).toArray
theorem ndW_cells (id:Nat) (o:Option G.Nd):(ndW id o).cells.size=5∧(ndW id o).cells.all (·.oneCell')=true:=by
 unfold ndW ndC
 cases o <;> exact ⟨rfl,by simp [Value.cells,Value.oneCell']⟩
theorem pat_nat {w:World} {P:Nat} {p:G.Pl} (h:PoolR (heapOf w) P p) (id:Nat):Calls Tryz.prog 50 #[vPt P,nv id] w fun e w'=>e=.returned (.tuple #[ndW id (p.nd id),.bool (p.nd id).isSome])∧Below w.heap.size w w':=by
 refine (pat_any h (id:Int)).mono ?_
 rintro e w' ⟨rfl,hb⟩
 refine ⟨?_,hb⟩
 rw [G.Pl.isI_nat]
 unfold ndV ndW
 rw [Int.toNat_natCast]
 cases hn:p.nd id <;> simp
section
variable {w:World} {S:Nat} {s:G.St}
set_option maxRecDepth 100000 in
set_option maxHeartbeats 1000000 in
theorem sis_nat (h:StR (heapOf w) S s) (f:Nat) (hf:f<9223372036854775808):Calls Tryz.prog 37 #[vPt S,nv f] w fun e w'=>e=.returned (.bool (s.is (f:Int)))∧Below w.heap.size w w':=by
 obtain ⟨h0,L,P,vV,vL,vT,vC,gs,h1,iS1,h3,h4,h5,h6,h7,h8,h9,hP,h11,h12,h13,h14⟩:=h
 have HN:=Lib.hid (fun w':World=>enode_any w' f hf)
 have HA:=Lib.hid (fun (w':World) (hle:(heapOf w).le (heapOf w'))=>pat_nat (hP.le hle) (f / 2))
 have HV5:=Lib.hid (ndW_cells (f / 2) (s.pl.nd (f / 2))).1
 have HV1:=Lib.hid (ndW_cells (f / 2) (s.pl.nd (f / 2))).2
 have hres:s.is (f:Int)=(f / 2 == 0 || (s.pl.nd (f / 2)).isSome):=by unfold G.St.is G.St.nd;simp
 rw [hres]
 clear hres h0 h1 h3 h4 h5 h6 h7 h8 h9 hP h11 h12 h13 h14
 have h0:¬ (f:Int)<0:=by omega
 have hS:Sat w (heapOf w) ([] ++ []) w:=Sat.start w
 go_enter Tryz.func37,Tryz.ntmps37
 go_wp2_with fail
 refine region_fnV [[],[0],[0,1],[0,1,2],[],[4],[0,1,2,3,4,5],[0,1,2,3,4,5,6],[0,1,2,3,4,5,6,7],[0,1,2,3,4,5,6,7],[],[0,1,2,3,4,5,6,7,8,10],[0,1,2,3,4,5,6,7,8,9,10,11]] _ _ [] _ [⟨10,11,96,#[.int .i64 0,.int .i64 0,.int .i64 0,.int .i64 0,.int .i64 0],fun cs _=>cs=(ndW (f / 2) (s.pl.nd (f / 2))).cells⟩] [fun v _=>v=vPt S,fun v _=>v=vPt S,fun v _=>v=.pointer (some ⟨S,1,none⟩),fun v _=>v=vPt P,fun v _=>v=nv (f),fun v _=>v=nv ((f) / 2),fun v _=>v=.tuple #[ndW (f / 2) (s.pl.nd (f / 2)),.bool ((s.pl.nd (f / 2)).isSome)],fun v _=>v=.tuple #[ndW (f / 2) (s.pl.nd (f / 2)),.bool ((s.pl.nd (f / 2)).isSome)],fun v _=>v=ndW (f / 2) (s.pl.nd (f / 2)),fun v _=>v=.bool ((s.pl.nd (f / 2)).isSome),fun _ _=>True,fun _ _=>True,fun v _=>v=.bool ((s.pl.nd (f / 2)).isSome)]
  (by kernel_rfl) (by kernel_rfl) (by simp) hS ?_ ?monoC ?okb ?dal ?fill ?plain ?fin
 · repeat (first|exact Lasting.nil|refine Lasting.cons (fun _ _ _ _ h=>h) ?_)
 case monoC =>
  intro b' hb' cs J K hJK
  simp only [List.mem_cons,List.not_mem_nil,or_false] at hb'
  subst hb'
  exact fun h=>h
 case okb =>
  intro b' hb'
  simp only [List.mem_cons,List.not_mem_nil,or_false] at hb'
  subst hb'
  exact ⟨by simp,⟨rfl,rfl,rfl⟩,⟨_,zeroB_eq ty_z96,rfl⟩,⟨rfl,rfl,_,rfl⟩,by simp,sizeB_eq ty_sz96⟩
 case dal =>
  intro b' hb' v' J
  simp only [List.mem_cons,List.not_mem_nil,or_false] at hb'
  subst hb'
  exact ⟨trivial,trivial⟩
 case fill =>
  intro b' hb' vals J hJ hg
  simp only [List.mem_cons,List.not_mem_nil,or_false] at hb'
  subst hb'
  simp only [zH,zI,Given,Facts] at hg
  refine ⟨ndW (f / 2) (s.pl.nd (f / 2)),by simp only [storeArg,textL,actL,dstAt,opAt,zH,zI,zA,zB,zK,if_true,Act.put,zE,zF,zG,Act.eval,zD,zC,zJ,hg],HV5.out,HV1.out,rfl⟩
 case plain =>
  repeat' (first|exact trivial|apply And.intro)
  all_goals first
   | (refine .inl (by rfl))
   | ((refine .inr ?_;intro vals J bs w hg hJ hS;simp only [zH,zI,Given,Facts] at hg;simp only [textL,actL,dstAt,opAt,zH,zI,zA,zB,zK,if_true,Act.put,zE,zF,zG,hg];refine ⟨?_⟩;refine wpStep_of (fun K hK=>?_);have HK:=Lib.hid hK;clear hK;rw [if_pos (by rfl)];(first|((with_reducible refine atLoad ?_);first|((refine' wp_ldi1 (v:=_) hS hJ ?ha rfl ?hc ?_);(case ha=>first|exact ty_agg55);(case hc=>assumption)))|(go_wp2_with (first|(go_at_call 51;(with_reducible refine Calls.mono (HN.out _) ?_);rintro e w2 ⟨rfl,rfl⟩)|(go_at_call 50;((with_reducible refine Calls.mono (HA.out _ (PH.le.trans hJ hS.ile)) ?_);rintro e w2 ⟨rfl,hb2⟩;have hS2:=hS.below_ hb2;clear hS hb2;have hS:=hS2;clear hS2)))));( refine HK.out _ _ ⟨rfl,J,PH.le.refl _,hS,?_⟩ );clear HK;simp only [Facts,outOf,zH,zI,Act.put,zE,zF,zG,zD,zC,zA,zB,zJ]);done)
 case fin =>
  intro vals J bs w hJ hg hS hB
  have hE:=Lib.hid (hS.end_ hJ)
  clear hB hS HA HV5 HV1 iS1
  have e1:(((f:Int) / 2) == 0)=(f / 2 == 0):=by
   by_cases hc:f / 2=0
   · rw [hc];have:(f:Int) / 2=0:=by omega
     rw [this];rfl
   · have:¬ (f:Int) / 2=0:=by omega
     rw [beq_eq_false_iff_ne.2 hc,beq_eq_false_iff_ne.2 this]
  have E1:=Lib.hid e1
  clear e1
  simp only [List.length_cons,List.length_nil,Nat.reduceAdd,Below_,Facts,zH,zI,true_and,and_true] at hg;simp only [List.length_cons,List.length_nil,Nat.reduceAdd,textL,actL,dstAt,zA,zB,zK,if_true,Act.put,zE,zF,zG,hg];refine ⟨?_⟩
  clear hg
  go_wp2_with (first|(go_at_call 51;(with_reducible refine Calls.mono (HN.out _) ?_);rintro e w2 ⟨rfl,rfl⟩))
  all_goals go_ret
  all_goals first|exact ⟨congrArg (fun z=>Ending.returned (.bool (z || (s.pl.nd (f / 2)).isSome))) E1.out,hE.out⟩|(refine ⟨?_,hE.out⟩;have e2:(f / 2 == 0)=true:=(by simp only [beq_iff_eq];omega);show Ending.returned (.bool true)=_;rw [e2];rfl)
theorem sis_neg (f:Int) (hf:f<0):Calls Tryz.prog 37 #[vPt S,.int .i64 f] w fun e w'=>e=.returned (.bool false)∧w=w':=by
 go_enter Tryz.func37,Tryz.ntmps37
 go_wp2
 go_ret
 exact ⟨rfl,rfl⟩
set_option maxRecDepth 100000 in
set_option maxHeartbeats 1000000 in
theorem sat_none (h:StR (heapOf w) S s) (f:Nat) (hf:f<9223372036854775808) (hn:s.nd (f / 2)=none):Calls Tryz.prog 41 #[vPt S,nv f] w fun e w'=>e=.returned (.tuple #[.int .i64 (-1),.int .i64 0,.int .i64 0,.bool false])∧Below w.heap.size w w':=by
 obtain ⟨h0,L,P,vV,vL,vT,vC,gs,h1,iS1,h3,h4,h5,h6,h7,h8,h9,hP,h11,h12,h13,h14⟩:=h
 have hn:s.pl.nd (f / 2)=none:=hn
 have HN:=Lib.hid (fun w':World=>enode_any w' f hf)
 have ha:∀ w':World,(heapOf w).le (heapOf w')→_:=fun (w':World) (hle:(heapOf w).le (heapOf w'))=>pat_nat (hP.le hle) (f / 2)
 rw [hn] at ha
 have HA:=Lib.hid ha
 have HV5:=Lib.hid (ndW_cells (f / 2) none).1
 have HV1:=Lib.hid (ndW_cells (f / 2) none).2
 clear ha h0 h1 h3 h4 h5 h6 h7 h8 h9 hP h11 h12 h13 h14
 have h0:¬ (f:Int)<0:=by omega
 have hS:Sat w (heapOf w) ([] ++ []) w:=Sat.start w
 go_enter Tryz.func41,Tryz.ntmps41
 go_wp2_with fail
 refine region_fnV [[],[0],[0,1],[0,1,2],[],[4],[0,1,2,3,4,5],[0,1,2,3,4,5,6],[0,1,2,3,4,5,6,7],[0,1,2,3,4,5,6,7],[],[0,1,2,3,4,5,6,7,8,10],[0,1,2,3,4,5,6,7,8,9,10,11]] _ _ [] _ [⟨10,11,96,#[.int .i64 0,.int .i64 0,.int .i64 0,.int .i64 0,.int .i64 0],fun cs _=>cs=(ndW (f / 2) none).cells⟩] [fun v _=>v=vPt S,fun v _=>v=vPt S,fun v _=>v=.pointer (some ⟨S,1,none⟩),fun v _=>v=vPt P,fun v _=>v=nv (f),fun v _=>v=nv ((f) / 2),fun v _=>v=.tuple #[ndW (f / 2) none,.bool (false)],fun v _=>v=.tuple #[ndW (f / 2) none,.bool (false)],fun v _=>v=ndW (f / 2) none,fun v _=>v=.bool (false),fun _ _=>True,fun _ _=>True,fun v _=>v=.bool (false)]
  (by kernel_rfl) (by kernel_rfl) (by simp) hS ?_ ?monoC ?okb ?dal ?fill ?plain ?fin
 · repeat (first|exact Lasting.nil|refine Lasting.cons (fun _ _ _ _ h=>h) ?_)
 case monoC =>
  intro b' hb' cs J K hJK
  simp only [List.mem_cons,List.not_mem_nil,or_false] at hb'
  subst hb'
  exact fun h=>h
 case okb =>
  intro b' hb'
  simp only [List.mem_cons,List.not_mem_nil,or_false] at hb'
  subst hb'
  exact ⟨by simp,⟨rfl,rfl,rfl⟩,⟨_,zeroB_eq ty_z96,rfl⟩,⟨rfl,rfl,_,rfl⟩,by simp,sizeB_eq ty_sz96⟩
 case dal =>
  intro b' hb' v' J
  simp only [List.mem_cons,List.not_mem_nil,or_false] at hb'
  subst hb'
  exact ⟨trivial,trivial⟩
 case fill =>
  intro b' hb' vals J hJ hg
  simp only [List.mem_cons,List.not_mem_nil,or_false] at hb'
  subst hb'
  simp only [zH,zI,Given,Facts] at hg
  refine ⟨ndW (f / 2) none,by simp only [storeArg,textL,actL,dstAt,opAt,zH,zI,zA,zB,zK,if_true,Act.put,zE,zF,zG,Act.eval,zD,zC,zJ,hg],HV5.out,HV1.out,rfl⟩
 case plain =>
  repeat' (first|exact trivial|apply And.intro)
  all_goals first
   | (refine .inl (by rfl))
   | ((refine .inr ?_;intro vals J bs w hg hJ hS;simp only [zH,zI,Given,Facts] at hg;simp only [textL,actL,dstAt,opAt,zH,zI,zA,zB,zK,if_true,Act.put,zE,zF,zG,hg];refine ⟨?_⟩;refine wpStep_of (fun K hK=>?_);have HK:=Lib.hid hK;clear hK;rw [if_pos (by rfl)];(first|((with_reducible refine atLoad ?_);first|((refine' wp_ldi1 (v:=_) hS hJ ?ha rfl ?hc ?_);(case ha=>first|exact ty_agg55);(case hc=>assumption)))|(go_wp2_with (first|(go_at_call 51;(with_reducible refine Calls.mono (HN.out _) ?_);rintro e w2 ⟨rfl,rfl⟩)|(go_at_call 50;((with_reducible refine Calls.mono (HA.out _ (PH.le.trans hJ hS.ile)) ?_);rintro e w2 ⟨rfl,hb2⟩;have hS2:=hS.below_ hb2;clear hS hb2;have hS:=hS2;clear hS2)))));( refine HK.out _ _ ⟨rfl,J,PH.le.refl _,hS,?_⟩ );clear HK;simp only [Facts,outOf,zH,zI,Act.put,zE,zF,zG,zD,zC,zA,zB,zJ]);done)
 case fin =>
  intro vals J bs w hJ hg hS hB
  have hE:=Lib.hid (hS.end_ hJ)
  clear hB hS HA HV5 HV1 iS1
  simp only [List.length_cons,List.length_nil,Nat.reduceAdd,Below_,Facts,zH,zI,true_and,and_true] at hg;simp only [List.length_cons,List.length_nil,Nat.reduceAdd,textL,actL,dstAt,zA,zB,zK,if_true,Act.put,zE,zF,zG,hg];refine ⟨?_⟩
  clear hg
  go_wp2
  refine bodyPost_ret (res4 (w:=w) rfl (rvt rfl) (rvt rfl) (rvt rfl) (rvt rfl)) rfl ?_
  exact ⟨rfl,hE.out⟩
set_option maxRecDepth 100000 in
set_option maxHeartbeats 1000000 in
theorem sat_some (h:StR (heapOf w) S s) (f:Nat) (hf:f<9223372036854775808) {n:G.Nd} (hn:s.nd (f / 2)=some n):Calls Tryz.prog 41 #[vPt S,nv f] w fun e w'=>e=.returned (.tuple #[nv n.v,nv (G.flipIf n.lo (f % 2 == 1)),nv (G.flipIf n.hi (f % 2 == 1)),.bool true])∧Below w.heap.size w w':=by
 obtain ⟨h0,L,P,vV,vL,vT,vC,gs,h1,iS1,h3,h4,h5,h6,h7,h8,h9,hP,h11,h12,h13,h14⟩:=h
 have hn:s.pl.nd (f / 2)=some n:=hn
 obtain ⟨_,fl,fh,_⟩:=hP.1.nd _ _ (G.Pl.nd_some.1 hn).2
 have HN:=Lib.hid (fun w':World=>enode_any w' f hf)
 have ha:∀ w':World,(heapOf w).le (heapOf w')→_:=fun (w':World) (hle:(heapOf w).le (heapOf w'))=>pat_nat (hP.le hle) (f / 2)
 rw [hn] at ha
 have HA:=Lib.hid ha
 have HV5:=Lib.hid (ndW_cells (f / 2) (some n)).1
 have HV1:=Lib.hid (ndW_cells (f / 2) (some n)).2
 have HG:=Lib.hid (fun w':World=>eneg_any w' f)
 have HL:=Lib.hid (fun (w':World)=>eflip_any w' n.lo (f % 2 == 1) fl)
 have HH:=Lib.hid (fun (w':World)=>eflip_any w' n.hi (f % 2 == 1) fh)
 clear ha h0 h1 h3 h4 h5 h6 h7 h8 h9 hP h11 h12 h13 h14
 have h0:¬ (f:Int)<0:=by omega
 have hS:Sat w (heapOf w) ([] ++ []) w:=Sat.start w
 go_enter Tryz.func41,Tryz.ntmps41
 go_wp2_with fail
 refine region_fnV [[],[0],[0,1],[0,1,2],[],[4],[0,1,2,3,4,5],[0,1,2,3,4,5,6],[0,1,2,3,4,5,6,7],[0,1,2,3,4,5,6,7],[],[0,1,2,3,4,5,6,7,8,10],[0,1,2,3,4,5,6,7,8,9,10,11]] _ _ [] _ [⟨10,11,96,#[.int .i64 0,.int .i64 0,.int .i64 0,.int .i64 0,.int .i64 0],fun cs _=>cs=(ndW (f / 2) (some n)).cells⟩] [fun v _=>v=vPt S,fun v _=>v=vPt S,fun v _=>v=.pointer (some ⟨S,1,none⟩),fun v _=>v=vPt P,fun v _=>v=nv (f),fun v _=>v=nv ((f) / 2),fun v _=>v=.tuple #[ndW (f / 2) (some n),.bool (true)],fun v _=>v=.tuple #[ndW (f / 2) (some n),.bool (true)],fun v _=>v=ndW (f / 2) (some n),fun v _=>v=.bool (true),fun _ _=>True,fun _ _=>True,fun v _=>v=.bool (true)]
  (by kernel_rfl) (by kernel_rfl) (by simp) hS ?_ ?monoC ?okb ?dal ?fill ?plain ?fin
 · repeat (first|exact Lasting.nil|refine Lasting.cons (fun _ _ _ _ h=>h) ?_)
 case monoC =>
  intro b' hb' cs J K hJK
  simp only [List.mem_cons,List.not_mem_nil,or_false] at hb'
  subst hb'
  exact fun h=>h
 case okb =>
  intro b' hb'
  simp only [List.mem_cons,List.not_mem_nil,or_false] at hb'
  subst hb'
  exact ⟨by simp,⟨rfl,rfl,rfl⟩,⟨_,zeroB_eq ty_z96,rfl⟩,⟨rfl,rfl,_,rfl⟩,by simp,sizeB_eq ty_sz96⟩
 case dal =>
  intro b' hb' v' J
  simp only [List.mem_cons,List.not_mem_nil,or_false] at hb'
  subst hb'
  exact ⟨trivial,trivial⟩
 case fill =>
  intro b' hb' vals J hJ hg
  simp only [List.mem_cons,List.not_mem_nil,or_false] at hb'
  subst hb'
  simp only [zH,zI,Given,Facts] at hg
  refine ⟨ndW (f / 2) (some n),by simp only [storeArg,textL,actL,dstAt,opAt,zH,zI,zA,zB,zK,if_true,Act.put,zE,zF,zG,Act.eval,zD,zC,zJ,hg],HV5.out,HV1.out,rfl⟩
 case plain =>
  repeat' (first|exact trivial|apply And.intro)
  all_goals first
   | (refine .inl (by rfl))
   | ((refine .inr ?_;intro vals J bs w hg hJ hS;simp only [zH,zI,Given,Facts] at hg;simp only [textL,actL,dstAt,opAt,zH,zI,zA,zB,zK,if_true,Act.put,zE,zF,zG,hg];refine ⟨?_⟩;refine wpStep_of (fun K hK=>?_);have HK:=Lib.hid hK;clear hK;rw [if_pos (by rfl)];(first|((with_reducible refine atLoad ?_);first|((refine' wp_ldi1 (v:=_) hS hJ ?ha rfl ?hc ?_);(case ha=>first|exact ty_agg55);(case hc=>assumption)))|(go_wp2_with (first|(go_at_call 51;(with_reducible refine Calls.mono (HN.out _) ?_);rintro e w2 ⟨rfl,rfl⟩)|(go_at_call 50;((with_reducible refine Calls.mono (HA.out _ (PH.le.trans hJ hS.ile)) ?_);rintro e w2 ⟨rfl,hb2⟩;have hS2:=hS.below_ hb2;clear hS hb2;have hS:=hS2;clear hS2)))));( refine HK.out _ _ ⟨rfl,J,PH.le.refl _,hS,?_⟩ );clear HK;simp only [Facts,outOf,zH,zI,Act.put,zE,zF,zG,zD,zC,zA,zB,zJ]);done)
 case fin =>
  intro vals J bs w1 hJ hg hS hB
  cases hB with
  | cons h1 hB =>
  cases hB
  simp only [Bx.st,if_true] at h1
  obtain ⟨Y,cY,eY,rfl,zY,rfl⟩:=h1
  have e10:vals 10=vPt Y:=eY
  clear HA HV5 HV1 iS1 HN
  have hS:=hS.less hJ
  simp only [List.nil_append,List.cons_append] at hS
  obtain ⟨I2,l12,lY,hS2,bY⟩:=hS.ice
  have iY1:I2.at Y 1=some (nv n.v):=PH.at_le lY (at_one rfl)
  have iY2:I2.at Y 2=some (nv n.lo):=PH.at_le lY (at_one rfl)
  have iY3:I2.at Y 3=some (nv n.hi):=PH.at_le lY (at_one rfl)
  have HbY:=Lib.hid bY
  clear hS bY lY l12
  simp only [List.length_cons,List.length_nil,Nat.reduceAdd,Below_,Facts,zH,zI,true_and,and_true] at hg;simp only [List.length_cons,List.length_nil,Nat.reduceAdd,textL,actL,dstAt,zA,zB,zK,if_true,Act.put,zE,zF,zG,hg];refine ⟨?_⟩
  clear hg
  simp only [e10]
  go_wp2_with fail
  refine region_c1 [[],[0],[],[2],[],[4],[2,3,4,5],[],[7],[],[2,3,4,5,6,9],[2,3,4,5,6,7,8,9,10],[0,1,2,3,4,5,6,7,8,9,10,11],[0,1,2,3,4,5,6,7,8,9,10,11,12],[0,1,2,3,4,5,6,7,8,9,10,11,12,13],[0,1,2,3,4,5,6,7,8,9,10,11,12,13,14]] _ I2 _
   [fun v _=>v=.pointer (some ⟨Y,1,none⟩),fun v _=>v=nv n.v,fun v _=>v=.pointer (some ⟨Y,2,none⟩),fun v _=>v=nv n.lo,fun v _=>v=nv f,fun v _=>v=.bool (f % 2 == 1),fun v _=>v=nv (G.flipIf n.lo (f % 2 == 1)),fun v _=>v=.pointer (some ⟨Y,3,none⟩),fun v _=>v=nv n.hi,fun v _=>v=nv f,fun v _=>v=.bool (f % 2 == 1),fun v _=>v=nv (G.flipIf n.hi (f % 2 == 1)),fun v _=>v=nv n.v,fun v _=>v=nv (G.flipIf n.lo (f % 2 == 1)),fun v _=>v=nv (G.flipIf n.hi (f % 2 == 1)),fun v _=>v=.bool true] []
   (fun _ _ _ ns=>ns=[]) (by kernel_rfl) (by kernel_rfl) (by decide) hS2 rfl ?last2 (fun _ _ _ _ _ _ h=>h) (fun _ _ _ _ _ _ h=>h) ?plain2 ?step2 ?fin2
  case last2=>repeat (first|exact Lasting.nil|refine Lasting.cons (fun _ _ _ _ h=>h) ?_)
  case plain2=>(repeat' (first|exact trivial|apply And.intro)) <;>  (refine .inr ?_;intro s vals J bs w hstop hg hJ hS hG;clear hG;simp only [zH,zI,Given,Facts] at hg;simp only [textL,actL,dstAt,opAt,zH,zI,zA,zB,zK,if_true,Act.put,zE,zF,zG,hg];refine ⟨?_⟩;refine wpStep_of (fun K hK=>?_);have HK:=Lib.hid hK;clear hK;rw [if_pos (by rfl)];(first|((with_reducible refine atLoad ?_);first|((refine' wp_ldi1 (v:=_) hS hJ ?ha rfl ?hc ?_);(case ha=>first|exact ty_agg3);(case hc=>assumption)))|(go_wp2_with (first|(go_at_call 38;(with_reducible refine Calls.mono (HG.out _) ?_);rintro e w2 ⟨rfl,rfl⟩)|(go_at_call 72;first|((with_reducible refine Calls.mono (HL.out _) ?_);rintro e w2 ⟨rfl,rfl⟩)|((with_reducible refine Calls.mono (HH.out _) ?_);rintro e w2 ⟨rfl,rfl⟩)))));refine HK.out _ _ ⟨rfl,J,PH.le.refl _,hS,?_⟩;clear HK;simp only [Facts];simp only [outOf,zH,zI,Act.put,zE,zF,zG,zD,zC,zA,zB,zJ])
  case step2=>trivial
  case fin2 =>
   intro vals2 J2 bs w2 hJ2 hg hS hG
   have hG:bs=_:=hG
   subst hG
   have hE:=Lib.hid ((HbY.out _ _ (hS.less hJ2)).end_ (PH.le.refl _))
   clear hS HbY iY1 iY2 iY3 HG HL HH
   simp only [List.length_cons,List.length_nil,Nat.reduceAdd,Below_,Facts,zH,zI,true_and] at hg;simp only [List.length_cons,List.length_nil,Nat.reduceAdd,textL,actL,dstAt,zA,zB,zK,if_true,Act.put,zE,zF,zG,hg];refine ⟨?_⟩
   clear hg
   go_wp2
   refine bodyPost_ret (res4 (w:=w2) rfl (rvt rfl) (rvt rfl) (rvt rfl) (rvt rfl)) rfl ?_
   exact ⟨rfl,hE.out⟩
end
end Go.Proofs.YtdhkkkhnjooioaaGreat
