import Derived.Test.YtdhkkkhnjooioaaGreatZbe
import Derived.Test.YtdhkkkhnjooioaaGreatZbc
set_option linter.unusedSimpArgs false
set_option linter.unusedVariables false
namespace Go.Proofs.YtdhkkkhnjooioaaGreat
open Go.ChangeShapes Go.WideShapes Go.ChangeAt Go.RowKit Go.Shelf
attribute [local go_sem] Oper.semAt_some
attribute [local go_sem ↓] wpIn_at_zero wpIn_at_succ
def AD (E:World) (I:PH) (ro:List PH) (XO:Nat) (xs:List (Nat × G.Nd)) (S:Nat→Prop) (W:World):Prop :=
 ∃ (mm:PH) (v:Value),OwnP mm 96 5 v xs.length (xs.flatMap ndR)∧Sat E I (ro ++ [mm,PH.one XO (.cells #[v] 112)]) W∧∀ p ∈ ro ++ [mm,PH.one XO (.cells #[v] 112)],∀ b,S b→p b=none
theorem AD.below {E:World} {I:PH} {ro:List PH} {XO:Nat} {xs:List (Nat × G.Nd)} {S:Nat→Prop} {W W':World} (h:AD E I ro XO xs S W) (hb:Below W.heap.size W W'):AD E I ro XO xs S W':=by
 obtain ⟨mm,v,h1,h2,h3⟩:=h
 exact ⟨mm,v,h1,h2.below_ hb,h3⟩
set_option maxRecDepth 100000 in
set_option maxHeartbeats 4000000 in
theorem sall_any {E w:World} {I:PH} {ms:List PH} {S:Nat} {s:G.St} (most:Nat) (hR:StR I S s) (hmo:most≤1000000) (hS:Sat E I ms w) :
 Calls Tryz.prog 73 #[vPt S,nv most] w fun e w'=>∃ v mo,e=.returned v∧OwnP mo 96 5 v ((s.pl.all).take most).length (((s.pl.all).take most).flatMap ndR)∧Sat E I (mo::ms) w':=by
 refine (callsIn_wide (n:=0)).1 ?_
 refine callsIn_of_wp_marks (n:=0) Tryz.func73 rfl trivial ?_ rfl
 simp only [Tryz.ntmps73,List.size_toArray,List.length_cons,List.length_nil,Nat.reduceAdd,Nat.reduceSub,Array.replicate_succ,Array.replicate_zero,List.push_toArray,List.append_toArray,List.nil_append,List.cons_append]
 refine wpIn_wide.2 ?_
 have hnf:∀ (W:World) (a:Array Value),(binOp BinOp.eql 124 (Value.func (Fn.func 81) #[] a) Value.nilFunc).run Tryz.prog W=.ok (.bool false) W:=fun _ _=>by kernel_rfl
 have hpf:=hR.pf
 have hal:s.pl.all.length≤1048577:=by
  unfold G.Pl.all
  rw [G.length_nodesFrom]
  exact Nat.le_trans (G.many_le _) (by have:=hpf.len;have:=hpf.room;omega)
 obtain ⟨h0,L,P,vV,vL,vT,vC,gs,i0,i1,i2,i3,i4,h6,h7,h8,h9,hP,hC,hgs,h13,h14⟩:=hR
 clear h0 i0 i2 i3 i4 h6 h7 h8 h9 hC hgs h13 h14 hpf
 have HE1:=Lib.hid (fun (w':World) (hle:I.le (heapOf w'))=>seach_any (PH.at_le hle i1))
 go_wp2_with (first|(go_at_call 83;(with_reducible refine Calls.mono (HE1.out _ hS.ile) ?_);rintro e w1 ⟨rfl,rfl⟩;have hS2:=hS.alloc (.cells #[vPt P] 55);clear hS;have hS:=hS2;clear hS2;generalize (World.heap w).size=Y at *;generalize World.alloc w _=w1 at *)|((with_reducible refine isBuildSlice ?_);(refine' bsl hS ?hr ?_);(case hr=>(intro w0;go_simp;rfl));clear hS;intro XS w hS;(try simp only [zF,zG,zE,Act.eval,zD,zC,zA,zB,zJ,Value.cells] at hS);(try simp only [Act.put,zE,zF,zG]))|((with_reducible refine atList ?_);first|((with_reducible refine isBoxD 3 ?_);refine bx hS rfl rfl rfl ?_;clear hS;intro X3 w hS;(try simp only [Act.eval,zD,zC,zA,zB,zJ,Value.cells] at hS);(try simp only [Act.put,zE,zF,zG]))|((with_reducible refine isAllocD 5 ?_);(refine' al (z:=_) hS rfl rfl ?ha ?_);(case ha=>exact ty_z112);clear hS;intro XO w hS;(try simp only [Value.cells] at hS);(try simp only [Act.put,zE,zF,zG]))|((with_reducible refine isStore ?_);( (refine st1 0 hS rfl rfl rfl rfl rfl ?ha rfl rfl ?hb ?_;(case ha=>exact ty_sz112);(case hb=>(simp;done))) );clear hS;intro w hS;(try simp only [zG,zE,Act.eval,zD,zC,zA,zB,zJ] at hS);(try simp only [Act.put])) ))
 have hS1:Sat E I (PH.one Y (.cells #[vPt P] 55)::PH.one X3 (.cells #[nv most] 3)::PH.one XO (.cells #[.slice (some ⟨XS,0,none⟩) 0 0] 112)::PH.one XS (.cells #[] 96)::ms) w1:=hS.perm (List.Perm.cons _ (List.perm_middle (l₁:=[_,_]) (a:=PH.one X3 (.cells #[nv most] 3))))
 clear hS
 obtain ⟨J1,l1,lY,hS2,bY⟩:=hS1.ice
 obtain ⟨J2,l2,lX3,hS3,bX3⟩:=hS2.ice
 have hPR:=(hP.le l1).le l2
 have hIY:J2.at Y 0=some (vPt P):=PH.at_le (lY.trans l2) (at_one rfl)
 have hIX:J2.at X3 0=some (nv most):=PH.at_le lX3 (at_one rfl)
 have hback:∀ ns w',Sat E J2 ns w'→Sat E I ns w':=fun ns w' h=>(bY _ _ (bX3 _ _ h).drop).drop
 have Hback:=Lib.hid hback
 have hSt:Sat E J2 (ms ++ [PH.one XS (.cells #[] 96),PH.one XO (.cells #[.slice (some ⟨XS,0,none⟩) 0 0] 112)]) w1:=hS3.perm ((List.Perm.swap _ _ _).trans (List.perm_append_comm (l₁:=[_,_])))
 have hit:=peach1_iter w1 J2 P Y s.pl hSt.ile hIY hPR
 have hIlt:∀ b o,J2 b=some o→b<w1.heap.size:=fun b o hb=>hSt.ilt hb
 have hrolt:∀ p ∈ ms,∀ b o,p b=some o→b<w1.heap.size:=fun p hp b o hb=>hSt.lt (List.mem_append_left _ hp) hb
 clear hS1 hS2 hS3 bY bX3 l1 l2 lY lX3 hback hP hPR hIY i1 HE1
 generalize hxl:s.pl.all=xs at *
 refine (wpIn_wide (n:=0)).1 ?_
 refine rangeFunc_law (K:=Kof J2) (gf:=81) (lb := #[Value.pointer (some { block:=Y,off:=0 })]) (w0:=w1) rfl (enters_of Tryz.func81 (by kernel_rfl) rfl)
  hit (Keeps.refl _ _) (fun b hb=>Kof.lt hSt.ile hb) ?hps
  (fun S pre W'=>pre.length≤most∧AD E J2 ms XO pre S W')
  (fun S cd _ W'=>cd=.exit 0∧AD E J2 ms XO (xs.take most) S W') ?hI ?hIx ?start
  (fun x a' W'=>∃ Bx,W'.heap[Bx]?=some (.cells (ndR x).toArray 96)∧a'=⟨#[vPt S,nv most,undef,Value.pointer (some { block:=X3,off:=0 }),Value.slice none 0 0,Value.pointer (some { block:=XO,off:=0 }),Value.func (Fn.func 81) #[] #[Value.pointer (some { block:=Y,off:=0 })],.pointer (some ⟨Bx,0,none⟩),Value.slice (some { block:=XS,off:=0 }) 0 0,vPt S,Value.func (Fn.func 81) #[] #[Value.pointer (some { block:=Y,off:=0 })],Value.func (Fn.func 81) #[] #[Value.pointer (some { block:=Y,off:=0 })],Value.bool false,undef,Value.func (Fn.func 81) #[] #[Value.pointer (some { block:=Y,off:=0 })],ndA x.1 x.2,undef,undef,undef,undef,undef,undef,undef,undef,undef],[]⟩) ?hAx ?assign ?body ?done ?stop
 case hps=>exact fun _=>rfl
 case hI =>
  rintro S pre A B row ⟨h0,mm,v,h1,h2,h3⟩ hg hr
  refine ⟨h0,mm,v,h1,h2.turn hg hr (fun b o hb=>.inl (hIlt b o hb)) (fun p hp b o hb=>?_),h3⟩
  rcases List.mem_append.1 hp with hp|hp
  · exact .inl (hrolt p hp b o hb)
  · simp only [List.mem_cons,List.not_mem_nil,or_false] at hp
    rcases hp with rfl|rfl
    · exact .inr (h1.isCells b o hb)
    · exact .inr (PH.one_isCells b o hb)
 case hIx =>
  rintro S cd pre A B row ⟨h0,mm,v,h1,h2,h3⟩ hg hr
  refine ⟨h0,mm,v,h1,h2.turn hg hr (fun b o hb=>.inl (hIlt b o hb)) (fun p hp b o hb=>?_),h3⟩
  rcases List.mem_append.1 hp with hp|hp
  · exact .inl (hrolt p hp b o hb)
  · simp only [List.mem_cons,List.not_mem_nil,or_false] at hp
    rcases hp with rfl|rfl
    · exact .inr (h1.isCells b o hb)
    · exact .inr (PH.one_isCells b o hb)
 case start =>
  intro S W' hb hst
  refine ⟨Nat.zero_le _,_,_,OwnP.lit XS 96 5 0 #[] (by decide) rfl,hSt.below_ hb,fun p hp b hSb=>?_⟩
  cases hpb:p b with
  | none=>rfl
  | some o =>
    exfalso
    rcases hst.2 b hSb with h|h
    · rcases hSt.sep p hp b with h4|h4
      · rw [hpb] at h4;cases h4
      · exact h h4
    · have:=hSt.lt hp hpb;omega
 case hAx =>
  rintro x a' s X Y' row ⟨Bx,h1,h2⟩ hg hr
  refine ⟨Bx,(hg.block Bx (Array.getElem?_eq_some_iff.1 h1).1 fun e=>?_).trans h1,h2⟩
  obtain ⟨o,ho,hc⟩:=(hr Bx e.symm).2
  rw [h1] at ho;cases ho;cases hc
 case assign =>
  intro l' S pre x suf W' K' hxs hSl hKS hi hK
  have HK:=Lib.hid hK
  have Hi:=Lib.hid hi
  clear hK hi
  obtain ⟨xi,xn⟩:=x
  unfold encNd ndA
  gi_wp2
  refine HK.out _ _ ((Keeps.refl S W').alloc hSl _) ⟨Hi.out.1,Hi.out.2.below ((Below.refl _ _).alloc (Nat.le_refl _) _)⟩ ⟨_,World.alloc_heap_new W' _,?_⟩
  rfl
 case body =>
  rintro l' S9 pre x suf a' W' hxs hSl hKS ⟨hpl,mm,v,hO,hSr,hap⟩ ⟨Bx,hbx,rfl⟩
  obtain ⟨I1,hI1,hS9,hfull⟩:=hSr.full
  obtain ⟨xi,xn⟩:=x
  have hpre:pre.length<1048577:=by have:=congrArg List.length hxs;rw [List.length_append,List.length_cons] at this;omega
  have cb:∀ j u,(ndR (xi,xn))[j]?=some u→W'.cell? ⟨Bx,j,none⟩=some u:=fun j u hj=>(cell_of_row W' Bx j _ _ (0,0) hbx).trans (by simpa using hj)
  obtain ⟨p,hp,hpb⟩:=hS9.find hfull Bx
  have hcells:Cells p Bx 0 (ndR (xi,xn)):=fun j u hj=>by rw [Nat.zero_add];exact PH.at_of_cell hpb (cb j u hj)
  have hp2:=src_perm' hp (List.perm_append_comm (l₁:=ms))
  have hS:=hS9.perm (List.perm_append_comm (l₁:=ms))
  simp only [List.cons_append,List.nil_append] at hS hp2
  have q3:I1.at X3 0=some (nv most):=PH.at_le hI1 hIX
  have p0:(0:Int)≤(pre.length:Int):=by omega
  have p1:(pre.length:Int)≤1048577:=by omega
  obtain ⟨A0,c0,rfl,hc0⟩:=hO.shape
  have Hxs:=Lib.hid hxs
  have Hfull:=Lib.hid hfull
  have Hap:=Lib.hid hap
  have Hpl:=Lib.hid hpl
  have HSr:=Lib.hid hSr
  have HI1:=Lib.hid hI1
  have Hcells:=Lib.hid hcells
  have Hp:=Lib.hid hp2
  clear hxs hfull hap hpl hSr hI1 hcells hp hp2 hpb cb hbx hc0 hS9 hit hSt
  by_cases hge:most≤pre.length
  · have HO:=Lib.hid hO
    clear hO
    have hgi:(most:Int)≤(pre.length:Int):=by omega
    gi_wp2_with (first|((with_reducible refine ratList ?_);  ((with_reducible refine risLoad ?_);(first|(refine wp_k1 1 hS rfl ?ha rfl rfl rfl ?_;(case ha =>  exact ty_agg112 ))|((refine' wp_i1 (v:=_) hS rfl ?ha rfl ?hb ?_);(case ha =>  exact ty_agg3);(case hb=>assumption)));(try simp only [Act.put,zE,zF,zG])) ))
    have hpm:pre.length=most:=by have:=Hpl.out;omega
    have:xs.take most=pre:=by rw [Hxs.out,← hpm];simp
    refine ⟨Keeps.refl _ _,rfl,?_⟩
    rw [this]
    exact ⟨_,_,HO.out,HSr.out,Hap.out⟩
  · have hlt:¬ (most:Int)≤(pre.length:Int):=by omega
    have hlen':pre.length+1≤most:=by omega
    have Hl:=Lib.hid hlen'
    clear hge hlen'
    gi_wp2_with (first|((with_reducible refine risLoad ?_);(refine wp_ldN (hS.src Hp.out) rfl ty_agg96 rfl Hcells.out ty_sz96 ?_);(try simp only [Act.put,zE,zF,zG]))|((with_reducible refine risAppend ?_);(refine' wp_apP (p:=_) (m:=_) (v:=_) (n:=_) (xs:=_) (news:=_) hS 1 rfl (.inr (List.Mem.head _)) rfl Tryz.underlying112 node_info rfl (by decide) rfl ?hown rfl ?hl ?hcl ?h1 ?h63 ?hby ?_);(case hown=>assumption);(case hcl=>exact Cells.one _ _ _ _);(case hl=>rfl);(case h1=>rfl);(case h63=>go_light;unfold maxLen;omega);(case hby=>go_light;omega);clear hS hO;intro v1 m1 w hO hS;refine Veil.out ?_;obtain ⟨A1,c1,rfl,_⟩:=OwnP.shape hO;refine ⟨?_⟩;(try simp only [zF,zG] at hS);(try simp only [Act.put,zE,zF,zG]))|((with_reducible refine ratList ?_);first|((with_reducible refine risLoad ?_);(first|(refine wp_k1 1 hS rfl ?ha rfl rfl rfl ?_;(case ha =>  exact ty_agg112 ))|((refine' wp_i1 (v:=_) hS rfl ?ha rfl ?hb ?_);(case ha =>  exact ty_agg3);(case hb=>assumption)));(try simp only [Act.put,zE,zF,zG]))|((with_reducible refine risStore ?_);( (refine wp_st1 hS 2 rfl rfl rfl rfl ?ha rfl rfl ?hb ?_;(case ha =>  exact ty_sz112 );(case hb=>(simp;done))));clear hS;intro w hS;(try simp only [zF,zG,zE,Act.eval,zD,zC,zA,zB,zJ] at hS);(try simp only [Act.put]))|((with_reducible refine risBuildSlice ?_);(refine' wp_bsl hS ?hr ?_);(case hr=>(intro w0;go_simp;rfl));clear hS;intro XS w hS;(try simp only [Act.eval,zD,zC,zA,zB,zJ,Value.cells] at hS);(try simp only [Act.put,zE,zF,zG]))))
    have hS2:=hS.drop.perm (List.perm_append_comm (l₁:=[m1,PH.one XO (.cells #[.slice A1 (pre.length+1) c1] 112)]) (l₂:=ms))
    obtain ⟨hk,hap'⟩:=Sat.keeps Hfull.out hSl Hap.out (PH.le.refl _) hS2
    refine ⟨hk,by rw [List.length_append];exact Hl.out,m1,.slice A1 (pre.length+1) c1,?_,(HSr.out.unbase hS2).less HI1.out,hap'⟩
    have hO2:OwnP m1 96 5 (.slice A1 (pre.length+1) c1) (pre.length+1) (pre.flatMap ndR ++ ndR (xi,xn)):=hO
    rw [List.length_append,List.flatMap_append]
    simpa using hO2
 case done =>
  rintro D S9 W3 hD hSS ⟨hpl,mm,v,hO,hSr,hap⟩ hd
  have hS:=hSr.perm (List.perm_append_comm (l₁:=ms))
  simp only [List.cons_append,List.nil_append] at hS
  obtain ⟨A0,c0,rfl,_⟩:=hO.shape
  have HO:=Lib.hid hO
  have HSr:=Lib.hid hSr
  clear hO hSr hap
  go_wp2_with (first|((with_reducible refine atList ?_);  ((with_reducible refine isLoad ?_);( (refine ld1 1 hS rfl rfl ?ha rfl rfl rfl ?_;(case ha=>exact ty_agg112)) );(try simp only [Act.put,zE,zF,zG])) ))
  have hT:Sat E J2 (ms ++ [mm,PH.one XO (.cells #[.slice A0 xs.length c0] 112)]) (W3.putObj D (.deferred none)):=by
   refine HSr.out.turn (B:=w1.heap.size) (grownBy_putObj' W3 D _) (fun r e=>by cases e;exact ⟨hD,_,hd,rfl⟩) (fun b o hb=>.inl (hIlt b o hb)) (fun p hp b o hb=>?_)
   rcases List.mem_append.1 hp with hp|hp
   · exact .inl (hrolt p hp b o hb)
   · simp only [List.mem_cons,List.not_mem_nil,or_false] at hp
     rcases hp with rfl|rfl
     · exact .inr (HO.out.isCells b o hb)
     · exact .inr (PH.one_isCells b o hb)
  have hF:=(hT.perm (List.perm_append_comm (l₁:=ms)))
  have hG:=Hback.out _ _ (hF.sub (List.Sublist.cons_cons mm (List.Sublist.cons _ (List.Sublist.refl ms))))
  clear hF hT hS
  refine ⟨by simp,.inl ⟨_,_,rfl,run_takeDeferred hd,?_⟩⟩
  refine ⟨_,(results_tmp Tryz.results73 _ _ _),_,mm,rfl,?_,hG⟩
  rw [hxl]
  rw [List.take_of_length_le hpl]
  exact HO.out
 case stop =>
  rintro D S9 cd pre W3 hD hSS hpre ⟨rfl,mm,v,hO,hSr,hap⟩ hd
  have hS:=hSr.perm (List.perm_append_comm (l₁:=ms))
  simp only [List.cons_append,List.nil_append] at hS
  generalize htk:xs.take most=tk at *
  obtain ⟨A0,c0,rfl,_⟩:=hO.shape
  have HO:=Lib.hid hO
  have HSr:=Lib.hid hSr
  clear hO hSr hap
  refine wpIn_wide.2 ?_
  go_wp2_with (first|((with_reducible refine atList ?_);  ((with_reducible refine isLoad ?_);( (refine ld1 1 hS rfl rfl ?ha rfl rfl rfl ?_;(case ha=>exact ty_agg112)) );(try simp only [Act.put,zE,zF,zG])) ))
  have hT:Sat E J2 (ms ++ [mm,PH.one XO (.cells #[.slice A0 tk.length c0] 112)]) (W3.putObj D (.deferred none)):=by
   refine HSr.out.turn (B:=w1.heap.size) (grownBy_putObj' W3 D _) (fun r e=>by cases e;exact ⟨hD,_,hd,rfl⟩) (fun b o hb=>.inl (hIlt b o hb)) (fun p hp b o hb=>?_)
   rcases List.mem_append.1 hp with hp|hp
   · exact .inl (hrolt p hp b o hb)
   · simp only [List.mem_cons,List.not_mem_nil,or_false] at hp
     rcases hp with rfl|rfl
     · exact .inr (HO.out.isCells b o hb)
     · exact .inr (PH.one_isCells b o hb)
  have hF:=(hT.perm (List.perm_append_comm (l₁:=ms)))
  have hG:=Hback.out _ _ (hF.sub (List.Sublist.cons_cons mm (List.Sublist.cons _ (List.Sublist.refl ms))))
  clear hF hT hS
  refine ⟨by simp,.inl ⟨_,_,rfl,run_takeDeferred hd,?_⟩⟩
  refine ⟨_,(results_tmp Tryz.results73 _ _ _),_,mm,rfl,?_,hG⟩
  rw [hxl,htk]
  skip
  exact HO.out
end Go.Proofs.YtdhkkkhnjooioaaGreat
namespace Go.Proofs.YtdhkkkhnjooioaaGreat
open Go.RowKit
theorem G.StOk.sane {B:Nat} {s:G.St} (h:G.StOk B s):Sane s:=⟨h.pl,fun v=>h.tab_lt v⟩
theorem G.StOk.swap_len {B:Nat} {s:G.St} (h:G.StOk B s) (hr:G.many s.pl.slots≤1000000):∀ s0 c,s.collect=some (s0,c)→∀ v,(s0.tab v).length≤1000000:=fun s0 c hc v=>by
 obtain ⟨s1,h1,h2⟩:=h.collect
 rw [h1] at hc
 cases hc
 have h3:=h2.ok.tab_len v
 have h4:=h2.many
 omega
namespace Lv
open G
def stOf (o:Option (St × Nat × Nat)):St:=match o with|some (s,_)=>s|none=>St.new 0 0
def stOf2 (o:Option (St × Nat)):St:=match o with|some (s,_)=>s|none=>St.new 0 0
def L1:St:=stOf ((St.new 2 9).mkE 1 1 0)
def L2:St:=stOf (L1.mkE 0 1 2)
def L3:St:=stOf2 (L2.hold 4)
def L4:St:=stOf (L3.mkE 0 2 1)
def L5:St:=stOf2 (L4.swap 0)
theorem h1:(St.new 2 9).mkE 1 1 0=some (L1,2,0):=by kernel_rfl
theorem h2:L1.mkE 0 1 2=some (L2,4,0):=by kernel_rfl
theorem h3:L2.hold 4=some (L3,0):=by kernel_rfl
theorem h4:L3.mkE 0 2 1=some (L4,7,0):=by kernel_rfl
theorem h5:L4.mkE 1 4 0=some (L4,0,10):=by kernel_rfl
theorem h6:L4.swap 0=some (L5,0):=by kernel_rfl
theorem k0:StOk 0 (St.new 2 9):=StOk.new (by decide) (by decide) (by decide)
theorem k1:StOk 0 L1:=k0.mk_any h1
theorem k2:StOk 0 L2:=k1.mk_any h2
theorem k3:StOk 1 L3:=k2.hold_any (by decide) h3
theorem k4:StOk 1 L4:=k3.mk_any h4
theorem n2:many L2.pl.slots=2:=by kernel_rfl
theorem n4:many L4.pl.slots=3:=by kernel_rfl
theorem d2:L2.dead=2:=by kernel_rfl
theorem d3:L3.dead=0:=by kernel_rfl
theorem o5:L5.vars=[1,0]:=by kernel_rfl
theorem t5:∀ i b,[false,false,false,true][i]?=some b→L5.valM i 2 3 4=(b,true)
 | 0,b,h=>by cases h;kernel_rfl
 | 1,b,h=>by cases h;kernel_rfl
 | 2,b,h=>by cases h;kernel_rfl
 | 3,b,h=>by cases h;kernel_rfl
 | i+4,b,h=>by simp at h
end Lv
section
variable {E w:World} {I m:PH} {ms:List PH} {S:Nat}
theorem lv0 (hS:Sat E I ms w):Calls Tryz.prog 5 #[.int .i64 2,.int .i64 9] w fun e w'=>∃ S m,e=.returned (.tuple #[vPt S,.int .i64 0])∧StAt S (G.St.new 2 9) m∧Sat E I (m::ms) w':=snew_ok 2 9 (by decide) (by decide) (by decide) hS
theorem lv1 (hA:StAt S (G.St.new 2 9) m) (hS:Sat E I (m::ms) w):Calls Tryz.prog 10 #[vPt S,.int .i64 1,.int .i64 1,.int .i64 0] w fun e w'=>e=.returned (.tuple #[.int .i64 2,.int .i64 0])∧∃ m',StAt S Lv.L1 m'∧Sat E I (m'::ms) w':=smk_any Lv.h1 (by decide) (by decide) Lv.k0.sane.tab hA hS
theorem lv2 (hA:StAt S Lv.L1 m) (hS:Sat E I (m::ms) w):Calls Tryz.prog 10 #[vPt S,.int .i64 0,.int .i64 1,.int .i64 2] w fun e w'=>e=.returned (.tuple #[.int .i64 4,.int .i64 0])∧∃ m',StAt S Lv.L2 m'∧Sat E I (m'::ms) w':=smk_any Lv.h2 (by decide) (by decide) Lv.k1.sane.tab hA hS
theorem lvL (hA:StAt S Lv.L2 m) (hS:Sat E I (m::ms) w):Calls Tryz.prog 11 #[vPt S] w fun e w'=>e=.returned (.int .i64 2)∧w=w':=by
 have:=slen_any (hA.read.le (hS.own _ (.head _)))
 rw [Lv.n2] at this
 exact this
theorem lvD (hA:StAt S Lv.L2 m) (hS:Sat E I (m::ms) w):Calls Tryz.prog 12 #[vPt S] w fun e w'=>e=.returned (.int .i64 2)∧w=w':=by
 have:=sdead_any (hA.read.le (hS.own _ (.head _)))
 rw [Lv.d2] at this
 exact this
theorem lv3 (hA:StAt S Lv.L2 m) (hS:Sat E I (m::ms) w):Calls Tryz.prog 13 #[vPt S,.int .i64 4] w fun e w'=>e=.returned (.int .i64 0)∧∃ m',StAt S Lv.L3 m'∧Sat E I (m'::ms) w':=shold_any Lv.h3 (by decide) hA hS
theorem lvE (hA:StAt S Lv.L3 m) (hS:Sat E I (m::ms) w):Calls Tryz.prog 12 #[vPt S] w fun e w'=>e=.returned (.int .i64 0)∧w=w':=by
 have:=sdead_any (hA.read.le (hS.own _ (.head _)))
 rw [Lv.d3] at this
 exact this
theorem lv4 (hA:StAt S Lv.L3 m) (hS:Sat E I (m::ms) w):Calls Tryz.prog 10 #[vPt S,.int .i64 0,.int .i64 2,.int .i64 1] w fun e w'=>e=.returned (.tuple #[.int .i64 7,.int .i64 0])∧∃ m',StAt S Lv.L4 m'∧Sat E I (m'::ms) w':=smk_any Lv.h4 (by decide) (by decide) Lv.k3.sane.tab hA hS
theorem lv5 (hA:StAt S Lv.L4 m) (hS:Sat E I (m::ms) w):Calls Tryz.prog 10 #[vPt S,.int .i64 1,.int .i64 4,.int .i64 0] w fun e w'=>e=.returned (.tuple #[.int .i64 0,.int .i64 10])∧∃ m',StAt S Lv.L4 m'∧Sat E I (m'::ms) w':=smk_any Lv.h5 (by decide) (by decide) Lv.k4.sane.tab hA hS
theorem lv6 (hA:StAt S Lv.L4 m) (hS:Sat E I (m::ms) w):Calls Tryz.prog 14 #[vPt S,.int .i64 0] w fun e w'=>e=.returned (.int .i64 0)∧∃ m',StAt S Lv.L5 m'∧Sat E I (m'::ms) w':=sswap_any Lv.h6 Lv.k4.sane Lv.k4.pm (Lv.k4.swap_len (by rw [Lv.n4];decide)) hA hS
theorem lvO (hA:StAt S Lv.L5 m) (hS:Sat E I (m::ms) w):Calls Tryz.prog 16 #[vPt S] w fun e w'=>∃ v m',e=.returned v∧OwnP m' 3 1 v 2 ([1,0].flatMap ivC)∧Sat E I (m'::m::ms) w':=by
 have:=sorder_any (hA.read.le (hS.own _ (.head _))) hS
 rw [Lv.o5] at this
 exact this
theorem lvT (hA:StAt S Lv.L5 m) (hS:Sat E I (m::ms) w):Calls Tryz.prog 18 #[vPt S,.int .i64 4,.int .i64 2] w fun e w'=>∃ v m',e=.returned v∧OwnP m' 4 1 v 4 ([false,false,false,true].flatMap bvC)∧Sat E I (m'::m::ms) w' :=
 table_any (f:=4) (n:=2) (t:=[false,false,false,true]) (hA.read.le (hS.own _ (.head _))) (by decide) (by decide) rfl Lv.t5 hS
theorem lvS (h:Sat E I ms w) {v:Value} {mo:PH} {X:Nat} (hv:OwnP mo 3 1 v 2 ([1,0].flatMap ivC)) (h1:ms[1]?=some mo) (h2:ms[0]?=some (PH.one X (.cells #[.int .i64 1,.int .i64 0] 3))):Calls Tryz.prog 15 #[v,.slice (some ⟨X,0,none⟩) 2 2] w fun e w'=>e=.returned (.bool true)∧Sat E I ms w':=by
 have hn:NumR (heapOf w) v [1,0]:=(OwnP.num (l:=[1,0]) hv).le (h.own _ (List.mem_of_getElem? h1))
 have hl:NumR (heapOf w) (.slice (some ⟨X,0,none⟩) 2 2) [1,0]:=(OwnP.num (l:=[1,0]) (OwnP.lit X 3 1 2 #[.int .i64 1,.int .i64 0] (by decide) rfl)).le (h.own _ (List.mem_of_getElem? h2))
 have:=nsame_any (ms:=[]) hn hl (by decide) (Sat.start w)
 refine this.mono ?_
 rintro e w' ⟨rfl,h9⟩
 exact ⟨rfl,h.below_ (h9.end_ (PH.le.refl _))⟩
theorem lvB (h:Sat E I ms w) {v:Value} {mo:PH} {X:Nat} (hv:OwnP mo 4 1 v 4 ([false,false,false,true].flatMap bvC)) (h1:ms[1]?=some mo) (h2:ms[0]?=some (PH.one X (.cells #[.bool false,.bool false,.bool false,.bool true] 4))):Calls Tryz.prog 17 #[v,.slice (some ⟨X,0,none⟩) 4 4] w fun e w'=>e=.returned (.bool true)∧Sat E I ms w':=by
 have hn:BoolR (heapOf w) v [false,false,false,true]:=(OwnP.boolR (l:=[false,false,false,true]) hv).le (h.own _ (List.mem_of_getElem? h1))
 have hl:BoolR (heapOf w) (.slice (some ⟨X,0,none⟩) 4 4) [false,false,false,true]:=(OwnP.boolR (l:=[false,false,false,true]) (OwnP.lit X 4 1 4 #[.bool false,.bool false,.bool false,.bool true] (by decide) rfl)).le (h.own _ (List.mem_of_getElem? h2))
 have:=bsame_any (ms:=[]) hn hl (by decide) (Sat.start w)
 refine this.mono ?_
 rintro e w' ⟨rfl,h9⟩
 exact ⟨rfl,h.below_ (h9.end_ (PH.le.refl _))⟩
set_option maxRecDepth 100000 in
set_option maxHeartbeats 8000000 in
theorem lives_any (hS:Sat E I ms w):Calls Tryz.prog 4 #[] w fun e w'=>e=.returned (.bool true)∧Sat E I ms w':=by
 go_enter Tryz.func4,Tryz.ntmps4
 go_wp2_with (first
  | (go_at_call 5;(with_reducible refine Calls.mono (lv0 hS) ?_);clear hS;rintro e w ⟨S,m,rfl,hA,hS⟩;have HA0:=Lib.hid hA;clear hA)
  | (go_at_call 10;first|((with_reducible refine Calls.mono (lv1 HA0.out hS) ?_);clear hS;rintro e w ⟨rfl,m1,hA,hS⟩;have HA1:=Lib.hid hA;clear hA)|((with_reducible refine Calls.mono (lv2 HA1.out hS) ?_);clear hS;rintro e w ⟨rfl,m2,hA,hS⟩;have HA2:=Lib.hid hA;clear hA)|((with_reducible refine Calls.mono (lv4 HA3.out hS) ?_);clear hS;rintro e w ⟨rfl,m4,hA,hS⟩;have HA4:=Lib.hid hA;clear hA)|((with_reducible refine Calls.mono (lv5 HA4.out hS) ?_);clear hS;rintro e w ⟨rfl,m5,hA,hS⟩;have HA5:=Lib.hid hA;clear hA))
  | (go_at_call 11;(with_reducible refine Calls.mono (lvL HA2.out hS) ?_);rintro e w9 ⟨rfl,rfl⟩)
  | (go_at_call 12;first|((with_reducible refine Calls.mono (lvD HA2.out hS) ?_);rintro e w9 ⟨rfl,rfl⟩)|((with_reducible refine Calls.mono (lvE HA3.out hS) ?_);rintro e w9 ⟨rfl,rfl⟩))
  | (go_at_call 13;(with_reducible refine Calls.mono (lv3 HA2.out hS) ?_);clear hS;rintro e w ⟨rfl,m3,hA,hS⟩;have HA3:=Lib.hid hA;clear hA)
  | (go_at_call 14;(with_reducible refine Calls.mono (lv6 HA5.out hS) ?_);clear hS;rintro e w ⟨rfl,m6,hA,hS⟩;have HA6:=Lib.hid hA;clear hA)
  | (go_at_call 16;(with_reducible refine Calls.mono (lvO HA6.out hS) ?_);clear hS;rintro e w ⟨vo,mo,rfl,hO,hS⟩;have HO:=Lib.hid hO;clear hO)
  | (go_at_call 15;(with_reducible refine Calls.mono (lvS hS HO.out rfl rfl) ?_);clear hS;rintro e w ⟨rfl,hS⟩;replace hS:=hS.drop.drop)
  | (go_at_call 18;(with_reducible refine Calls.mono (lvT HA6.out hS) ?_);clear hS;rintro e w ⟨vt,mt,rfl,hT,hS⟩;have HT:=Lib.hid hT;clear hT)
  | (go_at_call 17;(with_reducible refine Calls.mono (lvB hS HT.out rfl rfl) ?_);clear hS;rintro e w ⟨rfl,hS⟩;replace hS:=hS.drop.drop)
  | ((with_reducible refine isBuildSlice ?_);(refine' bsl hS ?hr ?_);(case hr=>(intro w0;go_simp;rfl));clear hS;intro XS w hS;(try simp only [zF,zG,zE,Act.eval,zD,zC,zA,zB,zJ,Value.cells] at hS);(try simp only [Act.put,zE,zF,zG]))
  | ((with_reducible refine atList ?_);first|((with_reducible refine isGuard ?_);  ((with_reducible refine guarded_yes ?hw ?_);case hw=>(simp only [Region.wanted,yielded,zC,zA,zB,zK,beq_self_eq_true];done)) )))
 go_ret
 exact ⟨rfl,hS.drop⟩
end
end Go.Proofs.YtdhkkkhnjooioaaGreat
namespace Go.Proofs.YtdhkkkhnjooioaaGreat.G
variable {B:Nat} {s s':St}
theorem StOk.tb_at (h:StOk B s) {f:Nat} (hv:val s.nd f) {t:Tb} (ht:s.tb f=t):∀ i b,t[i]?=some b→s.valM i s.vars.length (s.vars.length+1) f=(b,true):=fun i b hb=>by
 rw [h.valM' i hv]
 subst ht
 unfold St.tb at hb
 have hi:i<2 ^ s.vars.length:=by have:=(List.getElem?_eq_some_iff.1 hb).1;rwa [tabOf_length] at this
 rw [tabOf_get hi] at hb
 injection hb with hb
 rw [hb]
end Go.Proofs.YtdhkkkhnjooioaaGreat.G
namespace Go.Proofs.YtdhkkkhnjooioaaGreat
open Go.RowKit
end Go.Proofs.YtdhkkkhnjooioaaGreat
