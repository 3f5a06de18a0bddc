import Derived.Test.YtdhkkkhnjooioaaGreatZaq
import Derived.Test.YtdhkkkhnjooioaaGreatZag
import Derived.OwnWalkIn
import Derived.TacticsInMore
import Derived.LoopNIn
import Derived.LoopIn
import Derived.Outline
import Derived.Shelf.Abstract
import Derived.Shelf.RegionOpen
set_option linter.unusedSimpArgs false
set_option linter.unusedVariables false
namespace Go.Proofs.YtdhkkkhnjooioaaGreat
open Go.RowKit
set_option maxRecDepth 100000 in
set_option maxHeartbeats 4000000 in
theorem sheld_any {w:World} {S:Nat} {s:G.St} (h:StR (heapOf w) S s) (f:Int) (hf:f<9223372036854775808):Calls Tryz.prog 39 #[vPt S,.int .i64 f] w fun e w'=>e=.returned (nv (s.held f))∧Below w.heap.size w w':=by
 have HI:=Lib.hid (fun (w':World) (hle:(heapOf w).le (heapOf w'))=>sis_any (h.le hle) f hf)
 unfold G.St.held
 cases b1:s.is f with
 | false =>
   rw [b1] at HI
   have hS:=Sat.start w
   go_enter Tryz.func39,Tryz.ntmps39
   go_wp2_with (first|(go_at_call 37;(with_reducible refine Calls.mono (HI.out _ hS.ile) ?_);rintro e w2 ⟨rfl,hb⟩;replace hS:=hS.below_ hb;clear hb))
   go_ret
   exact ⟨rfl,hS.end_ (PH.le.refl _)⟩
 | true =>
 obtain ⟨f,rfl⟩:∃ a:Nat,f=(a:Int):=⟨f.toNat,by have:0≤f:=by { unfold G.St.is at b1;simp only [Bool.and_eq_true,decide_eq_true_eq] at b1;exact b1.1 };omega⟩
 have HN:=Lib.hid (fun w':World=>enode_any w' f (by omega))
 rw [b1] at HI
 obtain ⟨h0,L,P,vV,vL,vT,vC,gs,h1,iS1,h3,h4,h5,h6,h7,h8,h9,hP,h11,h12,h13,h14⟩:=h
 have hpat:=fun (w':World) (hle:(heapOf w).le (heapOf w'))=>pat_nat (hP.le hle) (f / 2)
 clear hf h0 h1 h3 h4 h5 h6 h7 h8 h9 hP h11 h12 h13 h14
 simp only [Bool.not_true,Bool.false_eq_true,if_false,Int.toNat_natCast]
 have hS:Sat w (heapOf w) ([] ++ []) w:=Sat.start w
 have key:∀ n:G.Nd,ndW (f / 2) (s.pl.nd (f / 2))=.agg #[nv (f / 2),nv n.v,nv n.lo,nv n.hi,nv n.refs]∨ndW (f / 2) (s.pl.nd (f / 2))≠.agg #[nv (f / 2),nv n.v,nv n.lo,nv n.hi,nv n.refs]:=fun n=>Classical.em _
 clear key
 cases hn:s.nd (f / 2) with
 | none =>
   rw [show s.pl.nd (f / 2)=none from hn] at hpat
   have HA:=Lib.hid hpat
   have HV5:=Lib.hid (ndW_cells (f / 2) none).1
   have HV1:=Lib.hid (ndW_cells (f / 2) none).2
   clear hpat hn
   go_enter Tryz.func39,Tryz.ntmps39
   go_wp2_with (first|(go_at_call 37;(with_reducible refine Calls.mono (HI.out _ hS.ile) ?_);rintro e w2 ⟨rfl,hb⟩;replace hS:=hS.below_ hb;clear hb))
   refine region_fnV [[],[0],[0,1],[0,1,2],[],[4],[0,1,2,3,4,5],[0,1,2,3,4,5,6],[0,1,2,3,4,5,6,7],[0,1,2,3,4,5,6,7],[],[0,1,2,3,4,5,6,7,8,10],[0,1,2,3,4,5,6,7,8,9,10,11]] _ _ [] _ [⟨10,11,96,#[.int .i64 0,.int .i64 0,.int .i64 0,.int .i64 0,.int .i64 0],fun cs _=>cs=(ndW (f / 2) none).cells⟩] [fun v _=>v=vPt S,fun v _=>v=vPt S,fun v _=>v=.pointer (some ⟨S,1,none⟩),fun v _=>v=vPt P,fun v _=>v=nv (f),fun v _=>v=nv ((f) / 2),fun v _=>v=.tuple #[ndW (f / 2) none,.bool (false)],fun v _=>v=.tuple #[ndW (f / 2) none,.bool (false)],fun v _=>v=ndW (f / 2) none,fun v _=>v=.bool (false),fun _ _=>True,fun _ _=>True,fun v _=>v=.bool (false)]
    (by kernel_rfl) (by kernel_rfl) (by simp) hS ?_ ?monoC ?okb ?dal ?fill ?plain ?fin
   · repeat (first|exact Lasting.nil|refine Lasting.cons (fun _ _ _ _ h=>h) ?_)
   case monoC =>
    intro b' hb' cs J K hJK
    simp only [List.mem_cons,List.not_mem_nil,or_false] at hb'
    subst hb'
    exact fun h=>h
   case okb =>
    intro b' hb'
    simp only [List.mem_cons,List.not_mem_nil,or_false] at hb'
    subst hb'
    exact ⟨by simp,⟨rfl,rfl,rfl⟩,⟨_,zeroB_eq ty_z96,rfl⟩,⟨rfl,rfl,_,rfl⟩,by simp,sizeB_eq ty_sz96⟩
   case dal =>
    intro b' hb' v' J
    simp only [List.mem_cons,List.not_mem_nil,or_false] at hb'
    subst hb'
    exact ⟨trivial,trivial⟩
   case fill =>
    intro b' hb' vals J hJ hg
    simp only [List.mem_cons,List.not_mem_nil,or_false] at hb'
    subst hb'
    simp only [zH,zI,Given,Facts] at hg
    refine ⟨ndW (f / 2) none,by simp only [storeArg,textL,actL,dstAt,opAt,zH,zI,zA,zB,zK,if_true,Act.put,zE,zF,zG,Act.eval,zD,zC,zJ,hg],HV5.out,HV1.out,rfl⟩
   case plain =>
    repeat' (first|exact trivial|apply And.intro)
    all_goals first
     | (refine .inl (by rfl))
     | ((refine .inr ?_;intro vals J bs w hg hJ hS;simp only [zH,zI,Given,Facts] at hg;simp only [textL,actL,dstAt,opAt,zH,zI,zA,zB,zK,if_true,Act.put,zE,zF,zG,hg];refine ⟨?_⟩;refine wpStep_of (fun K hK=>?_);have HK:=Lib.hid hK;clear hK;rw [if_pos (by rfl)];(first|((with_reducible refine atLoad ?_);first|((refine' wp_ldi1 (v:=_) hS hJ ?ha rfl ?hc ?_);(case ha=>first|exact ty_agg55);(case hc=>assumption)))|(go_wp2_with (first|(go_at_call 51;(with_reducible refine Calls.mono (HN.out _) ?_);rintro e w2 ⟨rfl,rfl⟩)|(go_at_call 50;((with_reducible refine Calls.mono (HA.out _ (PH.le.trans hJ hS.ile)) ?_);rintro e w2 ⟨rfl,hb2⟩;have hS2:=hS.below_ hb2;clear hS hb2;have hS:=hS2;clear hS2)))));( refine HK.out _ _ ⟨rfl,J,PH.le.refl _,hS,?_⟩ );clear HK;simp only [Facts,outOf,zH,zI,Act.put,zE,zF,zG,zD,zC,zA,zB,zJ]);done)
   case fin =>
    intro vals J9 bs w1 hJ9 hg hS hB
    cases hB with
    | cons h1 hB =>
    cases hB
    simp only [Bx.st,if_true] at h1
    obtain ⟨Y,cY,eY,rfl,zY,rfl⟩:=h1
    have e10:vals 10=vPt Y:=eY
    clear HA HV5 HV1
    have hS:=hS.less hJ9
    simp only [List.nil_append,List.cons_append] at hS
    have hS:Sat w (heapOf w) [PH.one Y (.cells #[.int .i64 0,.int .i64 0,.int .i64 0,.int .i64 0,.int .i64 0] 96)] w1:=hS
    simp only [List.length_cons,List.length_nil,Nat.reduceAdd,Below_,Facts,zH,zI,true_and,and_true] at hg;simp only [List.length_cons,List.length_nil,Nat.reduceAdd,textL,actL,dstAt,zA,zB,zK,if_true,Act.put,zE,zF,zG,hg];refine ⟨?_⟩
    clear hg
    simp only [e10]
    go_wp2_with (first|((with_reducible refine atList ?_);  ((with_reducible refine isLoad ?_);( (refine ld1 0 hS rfl rfl ?ha rfl rfl rfl ?_;(case ha=>exact ty_agg3)) );(try simp only [Act.put,zE,zF,zG])) ))
    go_ret
    exact ⟨rfl,hS.end_ (PH.le.refl _)⟩
 | some n =>
   rw [show s.pl.nd (f / 2)=some n from hn] at hpat
   have HA:=Lib.hid hpat
   have HV5:=Lib.hid (ndW_cells (f / 2) (some n)).1
   have HV1:=Lib.hid (ndW_cells (f / 2) (some n)).2
   clear hpat hn
   go_enter Tryz.func39,Tryz.ntmps39
   go_wp2_with (first|(go_at_call 37;(with_reducible refine Calls.mono (HI.out _ hS.ile) ?_);rintro e w2 ⟨rfl,hb⟩;replace hS:=hS.below_ hb;clear hb))
   refine region_fnV [[],[0],[0,1],[0,1,2],[],[4],[0,1,2,3,4,5],[0,1,2,3,4,5,6],[0,1,2,3,4,5,6,7],[0,1,2,3,4,5,6,7],[],[0,1,2,3,4,5,6,7,8,10],[0,1,2,3,4,5,6,7,8,9,10,11]] _ _ [] _ [⟨10,11,96,#[.int .i64 0,.int .i64 0,.int .i64 0,.int .i64 0,.int .i64 0],fun cs _=>cs=(ndW (f / 2) (some n)).cells⟩] [fun v _=>v=vPt S,fun v _=>v=vPt S,fun v _=>v=.pointer (some ⟨S,1,none⟩),fun v _=>v=vPt P,fun v _=>v=nv (f),fun v _=>v=nv ((f) / 2),fun v _=>v=.tuple #[ndW (f / 2) (some n),.bool (true)],fun v _=>v=.tuple #[ndW (f / 2) (some n),.bool (true)],fun v _=>v=ndW (f / 2) (some n),fun v _=>v=.bool (true),fun _ _=>True,fun _ _=>True,fun v _=>v=.bool (true)]
    (by kernel_rfl) (by kernel_rfl) (by simp) hS ?_ ?monoC ?okb ?dal ?fill ?plain ?fin
   · repeat (first|exact Lasting.nil|refine Lasting.cons (fun _ _ _ _ h=>h) ?_)
   case monoC =>
    intro b' hb' cs J K hJK
    simp only [List.mem_cons,List.not_mem_nil,or_false] at hb'
    subst hb'
    exact fun h=>h
   case okb =>
    intro b' hb'
    simp only [List.mem_cons,List.not_mem_nil,or_false] at hb'
    subst hb'
    exact ⟨by simp,⟨rfl,rfl,rfl⟩,⟨_,zeroB_eq ty_z96,rfl⟩,⟨rfl,rfl,_,rfl⟩,by simp,sizeB_eq ty_sz96⟩
   case dal =>
    intro b' hb' v' J
    simp only [List.mem_cons,List.not_mem_nil,or_false] at hb'
    subst hb'
    exact ⟨trivial,trivial⟩
   case fill =>
    intro b' hb' vals J hJ hg
    simp only [List.mem_cons,List.not_mem_nil,or_false] at hb'
    subst hb'
    simp only [zH,zI,Given,Facts] at hg
    refine ⟨ndW (f / 2) (some n),by simp only [storeArg,textL,actL,dstAt,opAt,zH,zI,zA,zB,zK,if_true,Act.put,zE,zF,zG,Act.eval,zD,zC,zJ,hg],HV5.out,HV1.out,rfl⟩
   case plain =>
    repeat' (first|exact trivial|apply And.intro)
    all_goals first
     | (refine .inl (by rfl))
     | ((refine .inr ?_;intro vals J bs w hg hJ hS;simp only [zH,zI,Given,Facts] at hg;simp only [textL,actL,dstAt,opAt,zH,zI,zA,zB,zK,if_true,Act.put,zE,zF,zG,hg];refine ⟨?_⟩;refine wpStep_of (fun K hK=>?_);have HK:=Lib.hid hK;clear hK;rw [if_pos (by rfl)];(first|((with_reducible refine atLoad ?_);first|((refine' wp_ldi1 (v:=_) hS hJ ?ha rfl ?hc ?_);(case ha=>first|exact ty_agg55);(case hc=>assumption)))|(go_wp2_with (first|(go_at_call 51;(with_reducible refine Calls.mono (HN.out _) ?_);rintro e w2 ⟨rfl,rfl⟩)|(go_at_call 50;((with_reducible refine Calls.mono (HA.out _ (PH.le.trans hJ hS.ile)) ?_);rintro e w2 ⟨rfl,hb2⟩;have hS2:=hS.below_ hb2;clear hS hb2;have hS:=hS2;clear hS2)))));( refine HK.out _ _ ⟨rfl,J,PH.le.refl _,hS,?_⟩ );clear HK;simp only [Facts,outOf,zH,zI,Act.put,zE,zF,zG,zD,zC,zA,zB,zJ]);done)
   case fin =>
    intro vals J9 bs w1 hJ9 hg hS hB
    cases hB with
    | cons h1 hB =>
    cases hB
    simp only [Bx.st,if_true] at h1
    obtain ⟨Y,cY,eY,rfl,zY,rfl⟩:=h1
    have e10:vals 10=vPt Y:=eY
    clear HA HV5 HV1
    have hS:=hS.less hJ9
    simp only [List.nil_append,List.cons_append] at hS
    have hS:Sat w (heapOf w) [PH.one Y (.cells #[nv (f / 2),nv n.v,nv n.lo,nv n.hi,nv n.refs] 96)] w1:=hS
    simp only [List.length_cons,List.length_nil,Nat.reduceAdd,Below_,Facts,zH,zI,true_and,and_true] at hg;simp only [List.length_cons,List.length_nil,Nat.reduceAdd,textL,actL,dstAt,zA,zB,zK,if_true,Act.put,zE,zF,zG,hg];refine ⟨?_⟩
    clear hg
    simp only [e10]
    go_wp2_with (first|((with_reducible refine atList ?_);  ((with_reducible refine isLoad ?_);( (refine ld1 0 hS rfl rfl ?ha rfl rfl rfl ?_;(case ha=>exact ty_agg3)) );(try simp only [Act.put,zE,zF,zG])) ))
    go_ret
    exact ⟨rfl,hS.end_ (PH.le.refl _)⟩
end Go.Proofs.YtdhkkkhnjooioaaGreat
namespace Go.Proofs.YtdhkkkhnjooioaaGreat.G
theorem nodesFrom_append:∀ (a b:List (Option Nd)) (k:Nat),nodesFrom k (a ++ b)=nodesFrom k a ++ nodesFrom (k+a.length) b
 | [],b,k=>rfl
 | none::a,b,k=>by
   rw [List.cons_append]
   show nodesFrom (k+1) (a ++ b)=nodesFrom (k+1) a ++ nodesFrom (k+(a.length+1)) b
   rw [nodesFrom_append a b,show k+1+a.length=k+(a.length+1) by omega]
 | some n::a,b,k=>by
   rw [List.cons_append]
   show (k,n)::nodesFrom (k+1) (a ++ b)=((k,n)::nodesFrom (k+1) a) ++ nodesFrom (k+(a.length+1)) b
   rw [nodesFrom_append a b,show k+1+a.length=k+(a.length+1) by omega];rfl
def Pl.upto (p:Pl) (k:Nat):List (Nat × Nd):=nodesFrom 0 (p.slots.take k)
def Pl.all (p:Pl):List (Nat × Nd):=nodesFrom 0 p.slots
def one1 (k:Nat):Option Nd→List (Nat × Nd)
 | none=>[]
 | some n=>[(k,n)]
theorem Pl.upto_succ (p:Pl) {k:Nat} {x:Option Nd} (h:p.slots[k]?=some x):p.upto (k+1)=p.upto k ++ one1 k x:=by
 have hk:=(List.getElem?_eq_some_iff.1 h).1
 unfold Pl.upto
 rw [List.take_add_one,h,nodesFrom_append]
 simp only [Option.toList_some,List.length_take,Nat.zero_add,Nat.min_eq_left (Nat.le_of_lt hk)]
 cases x <;> rfl
theorem Pl.upto_all (p:Pl):p.upto p.slots.length=p.all:=by unfold Pl.upto Pl.all;rw [List.take_length]
theorem Pl.upto_split (p:Pl) {k:Nat} {n:Nd} (h:p.slots[k]?=some (some n)):∃ suf,p.all=p.upto k ++ (k,n)::suf:=by
 have hk:=(List.getElem?_eq_some_iff.1 h).1
 have hd:p.slots=p.slots.take k ++ p.slots.drop k:=(List.take_append_drop k p.slots).symm
 have he:p.slots[k]=some n:=by rw [List.getElem?_eq_getElem hk] at h;injection h
 refine ⟨nodesFrom (k+1) (p.slots.drop (k+1)),?_⟩
 unfold Pl.all Pl.upto
 conv=>lhs;rw [hd]
 rw [nodesFrom_append,List.drop_eq_getElem_cons hk,he,List.length_take,Nat.min_eq_left (Nat.le_of_lt hk),Nat.zero_add]
 rfl
theorem Pl.mem_all {p:Pl} {i:Nat} {n:Nd}:(i,n) ∈ p.all↔p.slots[i]?=some (some n):=by unfold Pl.all;rw [mem_nodesFrom];simp
end Go.Proofs.YtdhkkkhnjooioaaGreat.G
namespace Go.Proofs.YtdhkkkhnjooioaaGreat
open Go.ChangeShapes Go.WideShapes Go.ChangeAt Go.RowKit Go.Shelf
attribute [local go_sem] Oper.semAt_some
attribute [local go_sem ↓] wpIn_at_zero wpIn_at_succ
abbrev Kof (I0:PH):Nat→Prop:=fun b=>I0 b≠none
theorem Kof.le {I0:PH} {w W:World} (h:Keeps (Kof I0) w W) (hw:I0.le (heapOf w)):I0.le (heapOf W):=fun b o hb=>(h.2 b (show I0 b≠none by rw [hb];simp)).trans (hw b o hb)
theorem Kof.lt {I0:PH} {w:World} (hw:I0.le (heapOf w)) {b:Nat} (h:Kof I0 b):b<w.heap.size:=by
 cases hb:I0 b with
 | none=>exact absurd hb h
 | some o=>exact (Array.getElem?_eq_some_iff.1 (hw b o hb)).1
set_option maxHeartbeats 1000000 in
theorem ids1_iter (w:World) (I0:PH) (P Bp:Nat) (p:G.Pl) (hI:I0.le (heapOf w)) (hbox:I0.at Bp 0=some (vPt P)) (hR:PoolR I0 P p) :
 Iter Tryz.prog 90 #[.pointer (some ⟨Bp,0,none⟩)] (fun k:Nat × G.Nd => #[nv k.1]) (Kof I0) p.all w:=by
 intro l J Jx W hk hJ hJx hY h0
 have hst:Stays (Kof I0) (Kof I0) W W:=⟨fun _ h=>h,fun _ h=>.inl h⟩
 have h00:=h0 _ W (Below.refl _ _) hst
 clear h0
 have hY':=hY (Kof I0)
 clear hY
 obtain ⟨hfit,A,cA,T,cT,vF,nF,cF,hvF,h1,h2,h3,h4,h5,h6,h7⟩:=hR
 have hW:∀ W',Keeps (Kof I0) w W'→W'.cell? ⟨Bp,0,none⟩=some (vPt P)∧W'.cell? ⟨P,1,none⟩=some (.slice (some ⟨A,0,none⟩) p.slots.length cA)∧W'.cell? ⟨P,2,none⟩=some (.slice (some ⟨T,0,none⟩) p.slots.length cT)∧∀ i x,p.slots[i]?=some x→W'.cell? ⟨T,i,none⟩=some (.bool x.isSome):=fun W' hk'=>by
  have hle:=Kof.le hk' hI
  exact ⟨heap_at hle hbox,heap_at hle h2,heap_at hle h3,fun i x hx=>heap_at hle (h7 i x hx)⟩
 have hn2:p.slots.length≤1048577:=by have:=hfit.len;have:=hfit.room;omega
 have hup:=p.upto_all
 generalize hn:p.slots.length=n at *
 have HW:=Lib.hid hW
 have HY:=Lib.hid hY'
 have HJ:=Lib.hid h00
 have Hk:=Lib.hid hk
 have Hn:=Lib.hid hn
 have Hst:=Lib.hid hst
 have Hup:=Lib.hid hup
 obtain ⟨c0,c1,c2,_⟩:=hW W hk
 clear hW hY' h00 hk hn hst hbox h1 h2 h3 h4 h5 h6 h7 hI hup hfit
 refine callsIn_of_wp Tryz.func90 rfl trivial ?_ rfl
 simp only [Tryz.ntmps90,List.size_toArray,List.length_cons,List.length_nil,Nat.reduceAdd,Nat.reduceSub,Array.replicate_succ,Array.replicate_zero,List.push_toArray,List.append_toArray,List.nil_append,List.cons_append]
 gi_wp2
 gi_loopw [11] (fun i wr=>∃ k:Nat,k≤n∧i=.int .i64 k∧J (Kof I0) (p.upto k) wr∧Keeps (Kof I0) w wr∧W.heap.size≤wr.heap.size) (fun i _=>(n - intOf i).toNat)
 case atStart=>exact ⟨0,by omega,rfl,HJ.out,Hk.out,Nat.le_refl _⟩
 case round =>
  obtain ⟨k,hkn,rfl,hj,hkp,hwr⟩:=hrel
  clear c0 c1 c2
  obtain ⟨c0,c1,c2,c3a⟩:=HW.out wr hkp
  have Hkp:=Lib.hid hkp
  have Hj:=Lib.hid hj
  have Hwr:=Lib.hid hwr
  clear hkp hj hwr
  by_cases hlt:k<n
  · obtain ⟨x,hx⟩:∃ x,p.slots[k]?=some x:=⟨_,List.getElem?_eq_getElem (by rw [Hn.out];exact hlt)⟩
    have c3:=c3a k x hx
    have hsucc:=p.upto_succ hx
    have Hsucc:=Lib.hid hsucc
    have ki:(k:Int)<(n:Int):=by omega
    have k0:(0:Int)≤(k:Int):=by omega
    have Hx:=Lib.hid hx
    clear c3a hsucc
    cases x with
    | none =>
      have c3:wr.cell? ⟨T,k,none⟩=some (.bool false):=c3
      gi_wp2
      refine ⟨fun _ h=>(by cases h),?_⟩
      gi_wp2
      go_roundw
      case rel=>exact ⟨k+1,by omega,by go_num,by rw [Hsucc.out];simpa [G.one1] using Hj.out,Hkp.out,Hwr.out⟩
      case measure=>simp [intOf];omega
    | some nd =>
      have c3:wr.cell? ⟨T,k,none⟩=some (.bool true):=c3
      obtain ⟨suf,hsuf⟩:=p.upto_split Hx.out
      obtain ⟨fn,tmps,assign,body,hy,hR⟩:=YieldAt.wide 0 (HY.out (p.upto k) (k,nd) suf wr hsuf Hj.out)
      have Hsuf:=Lib.hid hsuf
      clear hsuf
      gi_wp2
      refine ⟨rfl,?_⟩
      refine hR.mono ?_
      clear hR hy
      rintro e W3 (⟨rfl,hJ3,hk3⟩|⟨rfl,hJx3,_⟩)
      · have Hz:=Lib.hid (Nat.le_trans Hwr.out hk3.1)
        have Hk3:=Lib.hid (Hkp.out.trans hk3)
        have HJ3:=Lib.hid hJ3
        clear hJ3 hk3
        gi_wp2
        go_roundw
        case rel=>exact ⟨k+1,by omega,by go_num,by rw [Hsucc.out];simpa [G.one1] using HJ3.out,Hk3.out,Hz.out⟩
        case measure=>simp [intOf];omega
      · have HJx3:=Lib.hid hJx3
        clear hJx3
        gi_wp2
        refine bodyPost_ret (results_none rfl _ _ _) rfl ?_
        exact ⟨⟨_,rfl⟩,_,⟨fun _ h=>h,fun _ h=>.inl h⟩,.inr ⟨p.upto k ++ [(k,nd)],⟨suf,by rw [Hsuf.out];simp⟩,HJx3.out⟩⟩
  · have hkn':k=n:=by omega
    subst hkn'
    gi_wp2
    go_end0
    exact ⟨⟨_,rfl⟩,_,⟨fun _ h=>h,fun _ h=>.inl h⟩,.inl (by rw [← Hup.out];exact Hj.out)⟩
end Go.Proofs.YtdhkkkhnjooioaaGreat
