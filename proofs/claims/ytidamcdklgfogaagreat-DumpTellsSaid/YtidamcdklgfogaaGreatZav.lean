import Derived.Test.YtidamcdklgfogaaGreatZau
import Derived.Test.YtidamcdklgfogaaGreatZag
import Derived.OwnWalkIn
import Derived.TacticsInMore
import Derived.LoopNIn
import Derived.LoopIn
import Derived.Outline
import Derived.Shelf.Abstract
import Derived.Shelf.RegionOpen
import Derived.Test.YtidamcdklgfogaaGreatZac
import Derived.StillTailTactics
import Derived.OrdersIn
import Derived.TacticsIn
import Derived.Test.YtidamcdklgfogaaGreatZab
import Derived.Test.YtidamcdklgfogaaGreatZad
set_option linter.unusedSectionVars false
set_option linter.unusedSimpArgs false
set_option linter.unusedVariables false
set_option maxRecDepth 100000
set_option maxHeartbeats 4000000
namespace Go.Proofs.YtidamcdklgfogaaGreat
section
open Go.RowKit
end
namespace G
theorem Yh:∀ (a b:List (Option Nd)) (k:Nat),Qz k (a ++ b)=Qz k a ++ Qz (k+a.length) b
 | [],b,k=>rfl
 | none::a,b,k=>by
   rw [List.cons_append]
   show Qz (k+1) (a ++ b)=Qz (k+1) a ++ Qz (k+(a.length+1)) b
   rw [Yh a b,show k+1+a.length=k+(a.length+1) by omega]
 | some n::a,b,k=>by
   rw [List.cons_append]
   show (k,n)::Qz (k+1) (a ++ b)=((k,n)::Qz (k+1) a) ++ Qz (k+(a.length+1)) b
   rw [Yh a b,show k+1+a.length=k+(a.length+1) by omega];rfl
def Pl.upto (p:Pl) (k:Nat):List (Nat × Nd):=Qz 0 (p.slots.take k)
def Pl.all (p:Pl):List (Nat × Nd):=Qz 0 p.slots
def one1 (k:Nat):Option Nd→List (Nat × Nd)
 | none=>[]
 | some n=>[(k,n)]
theorem Pl.upto_succ (p:Pl) {k:Nat} {x:Option Nd} (h:p.slots[k]?=some x):p.upto (k+1)=p.upto k ++ one1 k x:=by
 have hk:=(yE.1 h).1
 unfold Pl.upto
 rw [List.take_add_one,h,Yh]
 simp only [Option.toList_some,List.length_take,Nat.zero_add,Nat.min_eq_left (Nat.le_of_lt hk)]
 cases x <;> rfl
theorem Pl.upto_all (p:Pl):p.upto p.slots.length=p.all:=by unfold Pl.upto Pl.all;rw [List.take_length]
theorem Pl.upto_split (p:Pl) {k:Nat} {n:Nd} (h:p.slots[k]?=some (some n)):∃ suf,p.all=p.upto k ++ (k,n)::suf:=by
 have hk:=(yE.1 h).1
 have hd:p.slots=p.slots.take k ++ p.slots.drop k:=(List.take_append_drop k p.slots).symm
 have he:p.slots[k]=some n:=by rw [yA hk] at h;injection h
 refine ⟨Qz (k+1) (p.slots.drop (k+1)),?_⟩
 unfold Pl.all Pl.upto
 conv=>lhs;rw [hd]
 rw [Yh,List.drop_eq_getElem_cons hk,he,List.length_take,Nat.min_eq_left (Nat.le_of_lt hk),Nat.zero_add]
 rfl
theorem Pl.mem_all {p:Pl} {i:Nat} {n:Nd}:(i,n) ∈ p.all↔p.slots[i]?=some (some n):=by unfold Pl.all;rw [Yl];simp
end G
section
open Go.ChangeShapes Go.WideShapes Go.ChangeAt Go.RowKit Go.Shelf
attribute [local go_sem] Oper.semAt_some
attribute [local go_sem ↓] wpIn_at_zero wpIn_at_succ
abbrev Kof (I0:PH):Nat→Prop:=fun b=>I0 b≠none
theorem Kof.le {I0:PH} {w W:World} (h:Keeps (Kof I0) w W) (hw:I0.le (Qa w)):I0.le (Qa W):=fun b o hb=>(h.2 b (show I0 b≠none by rw [hb];simp)).trans (hw b o hb)
theorem Kof.lt {I0:PH} {w:World} (hw:I0.le (Qa w)) {b:Nat} (h:Kof I0 b):b<w.heap.size:=by
 cases hb:I0 b with
 | none=>exact absurd hb h
 | some o=>exact (Array.getElem?_eq_some_iff.1 (hw b o hb)).1
theorem ids1_iter (w:World) (I0:PH) (P Bp:Nat) (p:G.Pl) (hI:I0.le (Qa w)) (hbox:I0.at Bp 0=some (vPt P)) (hR:PoolR I0 P p) :
  Iter Tryz.prog 172 #[.pointer (some ⟨Bp,0,none⟩)] (fun k:Nat × G.Nd => #[nv k.1]) (Kof I0) p.all w:=by
 intro l J Jx W hk hJ hJx hY h0
 have hst:Stays (Kof I0) (Kof I0) W W:=⟨fun _ h=>h,fun _ h=>.inl h⟩
 have h00:=h0 _ W (Below.refl _ _) hst
 clear h0
 have hY':=hY (Kof I0)
 clear hY
 obtain ⟨hfit,A,cA,T,cT,vF,nF,cF,hvF,h1,h2,h3,h4,h5,h6,h7⟩:=hR
 have hW:∀ W',Keeps (Kof I0) w W'→W'.cell? ⟨Bp,0,none⟩=some (vPt P)∧W'.cell? ⟨P,1,none⟩=some (.slice (some ⟨A,0,none⟩) p.slots.length cA)∧W'.cell? ⟨P,2,none⟩=some (.slice (some ⟨T,0,none⟩) p.slots.length cT)∧∀ i x,p.slots[i]?=some x→W'.cell? ⟨T,i,none⟩=some (.bool x.isSome):=fun W' hk'=>by
  have hle:=Kof.le hk' hI
  exact ⟨Kb hle hbox,Kb hle h2,Kb hle h3,fun i x hx=>Kb hle (h7 i x hx)⟩
 have hn2:p.slots.length≤1048577:=by have:=hfit.len;have:=hfit.room;omega
 have hup:=p.upto_all
 generalize hn:p.slots.length=n at *
 have HW:=yH hW
 have HY:=yH hY'
 have HJ:=yH h00
 have Hk:=yH hk
 have Hn:=yH hn
 have Hst:=yH hst
 have Hup:=yH hup
 obtain ⟨c0,c1,c2,_⟩:=hW W hk
 clear hW hY' h00 hk hn hst hbox h1 h2 h3 h4 h5 h6 h7 hI hup hfit
 refine callsIn_of_wp Tryz.func172 rfl trivial ?_ rfl
 simp only [Tryz.ntmps172,List.size_toArray,yB,yC,Nat.reduceAdd,Nat.reduceSub,Array.replicate_succ,Array.replicate_zero,List.push_toArray,List.append_toArray,List.nil_append,List.cons_append]
 gi_wp2
 gi_loopw [11] (fun i wr=>∃ k:Nat,k≤n∧i=.int .i64 k∧J (Kof I0) (p.upto k) wr∧Keeps (Kof I0) w wr∧W.heap.size≤wr.heap.size) (fun i _=>(n - intOf i).toNat)
 case atStart=>exact ⟨0,by omega,rfl,HJ.out,Hk.out,Nat.le_refl _⟩
 case round =>
  obtain ⟨k,hkn,rfl,hj,hkp,hwr⟩:=hrel
  clear c0 c1 c2
  obtain ⟨c0,c1,c2,c3a⟩:=HW.out wr hkp
  have Hkp:=yH hkp
  have Hj:=yH hj
  have Hwr:=yH hwr
  clear hkp hj hwr
  by_cases hlt:k<n
  · obtain ⟨x,hx⟩:∃ x,p.slots[k]?=some x:=⟨_,yA (by rw [Hn.out];exact hlt)⟩
    have c3:=c3a k x hx
    have hsucc:=p.upto_succ hx
    have Hsucc:=yH hsucc
    have ki:(k:Int)<(n:Int):=by omega
    have k0:(0:Int)≤(k:Int):=by omega
    have Hx:=yH hx
    clear c3a hsucc
    cases x with
    | none =>
      have c3:wr.cell? ⟨T,k,none⟩=some (.bool false):=c3
      gi_wp2
      refine ⟨fun _ h=>(by cases h),?_⟩
      gi_wp2
      go_roundw
      case rel=>exact ⟨k+1,by omega,by go_num,by rw [Hsucc.out];simpa [G.one1] using Hj.out,Hkp.out,Hwr.out⟩
      case measure=>simp [intOf];omega
    | some nd =>
      have c3:wr.cell? ⟨T,k,none⟩=some (.bool true):=c3
      obtain ⟨suf,hsuf⟩:=p.upto_split Hx.out
      obtain ⟨fn,tmps,assign,body,hy,hR⟩:=YieldAt.wide 0 (HY.out (p.upto k) (k,nd) suf wr hsuf Hj.out)
      have Hsuf:=yH hsuf
      clear hsuf
      gi_wp2
      refine ⟨rfl,?_⟩
      refine hR.mono ?_
      clear hR hy
      rintro e W3 (⟨rfl,hJ3,hk3⟩|⟨rfl,hJx3,_⟩)
      · have Hz:=yH (Nat.le_trans Hwr.out hk3.1)
        have Hk3:=yH (Hkp.out.trans hk3)
        have HJ3:=yH hJ3
        clear hJ3 hk3
        gi_wp2
        go_roundw
        case rel=>exact ⟨k+1,by omega,by go_num,by rw [Hsucc.out];simpa [G.one1] using HJ3.out,Hk3.out,Hz.out⟩
        case measure=>simp [intOf];omega
      · have HJx3:=yH hJx3
        clear hJx3
        gi_wp2
        refine bodyPost_ret (results_none rfl _ _ _) rfl ?_
        exact ⟨⟨_,rfl⟩,_,⟨fun _ h=>h,fun _ h=>.inl h⟩,.inr ⟨p.upto k ++ [(k,nd)],⟨suf,by rw [Hsuf.out];simp⟩,HJx3.out⟩⟩
  · have hkn':k=n:=by omega
    subst hkn'
    gi_wp2
    go_end0
    exact ⟨⟨_,rfl⟩,_,⟨fun _ h=>h,fun _ h=>.inl h⟩,.inl (by rw [← Hup.out];exact Hj.out)⟩
end
section
open Go.ChangeShapes Go.WideShapes Go.ChangeAt Go.RowKit
section
variable {F:Fence} {n:Nat} {P:Program} {ops:Array Oper} {md:Region.Mode} {w:World}
theorem Oper.wpIn_of_still (hF:∀ f,F.fn f) (hd:F.depth=none) {o:Oper} {a:Act} {K:Act→Prop} {K':Act→World→Prop} {Q':Exit→Act→World→Prop} (h:∀ a,K a→K' a w) (hh:o.still P a w K)
  (hcall:∀ f args w' R,Calls P f args w' R→CallsIn F (n - 1) P f args w' R):o.wpIn F n P a w K' Q':=by
 refine ⟨fun f _=>hF f,?_⟩
 unfold Oper.still at hh
 have hs:Oper.semAt F.round a.eval o=execOp a.eval o:=by
  unfold Oper.semAt
  split
  · rename_i l c hr ho
    exfalso
    simp only [ho,execOp,Sem.run_bind] at hh
    revert hh
    cases (resolve a.eval c o.type).run P w with
    | ok d w'=>simp [Result.andThen,Oper.stillUpon]
    | halt x w'=>simp [Result.andThen,Oper.stillUpon]
  · rfl
 rw [hs]
 generalize (execOp a.eval o).run P w=r at *
 cases r with
 | ok m w' =>
   cases m <;> simp only [Oper.stillUpon] at hh <;> simp only [Oper.uponIn]
   case enter f args =>
    obtain ⟨rfl,v,hc,hn⟩:=hh
    exact ⟨fun h=>(by rw [hd] at h;cases h),hcall _ _ _ _ (hc.mono fun e w'' ⟨he,hw⟩=>by subst he;subst hw;exact h _ hn)⟩
   all_goals (obtain ⟨rfl,h2⟩:=hh;exact h _ h2)
 | halt x w'=>simp only [Oper.stillUpon] at hh
theorem wpOpIn_of_stOp (hF:∀ f,F.fn f) (hd:F.depth=none) (hcall:∀ f args w' R,Calls P f args w' R→CallsIn F (n - 1) P f args w' R) {i:Nat} {a:Act} {K:Act→Prop} {K':Act→World→Prop} {Q':Exit→Act→World→Prop}
  (h:∀ a,K a→K' a w) (hh:stOp P ops w i K a):wpOpIn F n P ops Q' i K' a w:=by
 unfold stOp at hh
 unfold wpOpIn
 split
 · rename_i ho;simp only [ho] at hh;exact h _ hh
 · rename_i o ho
   simp only [ho] at hh
   split
   · rename_i hw;simp only [hw,if_true] at hh;exact Oper.wpIn_of_still hF hd h hh hcall
   · rename_i hw;simp only [hw] at hh;exact ⟨fun f _=>hF f,h _ hh⟩
theorem wpAnyIn_of_head (hF:∀ f,F.fn f) (hd:F.depth=none) (hcall:∀ f args w' R,Calls P f args w' R→CallsIn F (n - 1) P f args w' R) {m g:Nat} {L:Array Bool→Act→Prop} {Q':Exit→Act→World→Prop}
  (hL:∀ listed a,L listed a→wpAnyIn F n P md ops Q' g listed a w):∀ (f:Nat) (listed:Array Bool) (a:Act),wpAnyL P md ops w m L f listed a→wpAnyIn F n P md ops Q' (f+g) listed a w
 | 0,listed,a,h=>by rw [Nat.zero_add];exact hL _ _ h
 | f+1,listed,a,h=>by
   rw [show f+1+g=(f+g)+1 by omega]
   exact ⟨fun h0=>absurd h0 h.1,fun i hi=>wpOpIn_of_stOp hF hd hcall (fun a' h'=>wpAnyIn_of_head hF hd hcall hL f _ a' h') (h.2 i hi).2⟩
theorem wpAnyIn_of_seq {Q':Exit→Act→World→Prop}:∀ (l:List Oper) (k:Nat) (listed:Array Bool) (a:Act) (w:World),(∀ j,l[j]?=ops[k+j]?) →
  Region.seqB md ops l.length k listed=true→wpListIn F n P ops Q' l a w→wpAnyIn F n P md ops Q' l.length listed a w
 | [],_,_,_,_,_,hB,h=>⟨by simpa [Region.seqB] using hB,h⟩
 | o::l,k,listed,a,w,hl,hB,h=>by
   have h0:ops[k]?=some o:=by simpa using (hl 0).symm
   simp only [yB,Region.seqB,Bool.and_eq_true,decide_eq_true_eq] at hB
   refine ⟨fun h1=>(by rw [hB.1] at h1;cases h1),fun i hi=>?_⟩
   rw [hB.1] at hi
   obtain rfl:i=k:=by simpa using hi
   have hw:wpOpIn F n P ops Q' i (wpListIn F n P ops Q' l) a w:=by unfold wpOpIn;simp only [h0];exact h
   exact wpOpIn_mono (fun a' w' h'=>wpAnyIn_of_seq l (i+1) _ a' w' (fun j=>by have:=hl (j+1);simpa [Nat.add_assoc,Nat.add_comm 1 j] using this) hB.2 h') hw
theorem wpIn_region_tail (hF:∀ f,F.fn f) (hd:F.depth=none) (hcall:∀ f args w' R,Calls P f args w' R→CallsIn F (n - 1) P f args w' R) {id:Nat} {Q:Exit→Act→World→Prop} {a:Act} {l:List Oper} (m:Nat)
  (hm:P.follows .mixedOrders=true) (hB:Region.lexTailB .any l.toArray m=true)
  (h:wpStill P l.toArray w.drew (fun a'=>wpListIn F n P l.toArray Q (l.drop m) a' w.drew) (l.take m) a):(Code.region id l.toArray true).wpIn F n P Q a w:=by
 simp only [Region.lexTailB,Bool.and_eq_true,decide_eq_true_eq] at hB
 obtain ⟨⟨⟨⟨hsel,hn⟩,hs⟩,hc⟩,hlex⟩:=hB
 have hn':m<l.length:=by simpa using hn
 have htl:(l.take m).length=m:=by simp;omega
 have hdl:(l.drop m).length=l.toArray.size - m:=by simp
 have inv0:HeadInv .any l.toArray m (Array.replicate l.toArray.size false) :=
  ⟨by simp,fun j oj _ hl=>(by rw [getD_replicate_false] at hl;cases hl),fun t _ ht=>getD_in (by simpa using ht) (getD_replicate_false _ _)⟩
 have H:=wpAnyL_lex (md:=.any) (g:=l.toArray.size - m) hsel hs hc hn (l.take m) 0 _ a (fun j hj=>by
  have hj':j<m:=by rw [htl] at hj;exact hj
  simp [hj']) (by simpa using htl) inv0 (by rw [htl];exact hlex) h
 refine wpIn_region_any hm ?_
 have H2:=wpAnyIn_of_head (F:=F) (n:=n) (Q':=Q) hF hd hcall (g:=l.toArray.size - m) (fun listed a' hL=>by
  have:=wpAnyIn_of_seq (F:=F) (n:=n) (P:=P) (md:=.any) (ops:=l.toArray) (Q':=Q) (l.drop m) m listed a' w.drew (fun j=>by simp) (by rw [hdl];exact hL.1) hL.2
  rw [hdl] at this
  exact this) _ _ _ H
 rw [htl,show m+(l.toArray.size - m)=l.toArray.size by omega] at H2
 exact H2
end
theorem round_tail {n l0:Nat} {P:Program} {w:World} {id:Nat} {Q:Exit→Act→World→Prop} {a:Act} {l:List Oper} (m:Nat)
  (hm:P.follows .mixedOrders=true) (hB:Region.lexTailB .any l.toArray m=true)
  (h:wpStill P l.toArray w.drew (fun a'=>wpListIn (Fence.wide.inRound l0) n P l.toArray Q (l.drop m) a' w.drew) (l.take m) a):(Code.region id l.toArray true).wpIn (Fence.wide.inRound l0) n P Q a w :=
 wpIn_region_tail (fun _=>trivial) rfl (fun _ _ _ _ h=>CallsIn.inRound _ (callsIn_wide.2 h)) m hm hB h
theorem wide_tail {n:Nat} {P:Program} {w:World} {id:Nat} {Q:Exit→Act→World→Prop} {a:Act} {l:List Oper} (m:Nat)
  (hm:P.follows .mixedOrders=true) (hB:Region.lexTailB .any l.toArray m=true)
  (h:wpStill P l.toArray w.drew (fun a'=>wpListIn Fence.wide n P l.toArray Q (l.drop m) a' w.drew) (l.take m) a):(Code.region id l.toArray true).wpIn Fence.wide n P Q a w :=
 wpIn_region_tail (fun _=>trivial) rfl (fun _ _ _ _ h=>callsIn_wide.2 h) m hm hB h
end
section
open Go.RowKit
section
variable {l n:Nat} {P:Program} {o:Oper} {a:Act} {w E:World} {K:Act→World→Prop} {Q Q':Exit→Act→World→Prop} {I:PH} {ms:List PH} {ops:Array Oper} {rest:List Oper}
theorem inr_op (hg:o.guard=none) (hs:isSelect o.op=false) (h:o.wp P a w (fun a' w'=>wpListIn (Fence.wide.inRound l) n P ops Q rest a' w') calm):wpListIn (Fence.wide.inRound l) n P ops Q (o::rest) a w :=
 wpListIn_plain hg fun K hK=>by
  have h2:o.wp P a w K calm:=by
   unfold Oper.wp at h ⊢
   generalize (execOp a.eval o).run P w=r at h ⊢
   cases r with
   | ok m w' =>
     cases m <;> simp only [Oper.upon] at h ⊢ <;> first
      | exact hK _ _ h
      | (refine yI h fun e w'' he=>?_
         cases e with
         | returned v=>exact hK _ _ he
         | panicked c=>exact he
         | outgrown=>exact he)
      | (exact Rows.mono h fun v w'' he=>hK _ _ he)
   | halt x w'=>cases x <;> simp only [Oper.upon] at h ⊢ <;> exact h
  exact Oper.wpIn_of_wp (fun _=>trivial) rfl (fun _ _ _ _ h=>callsIn_round h) (fun _ _ _ _ h=>rowsIn_round h) hs h2
theorem ratList (h:wpListIn (Fence.wide.inRound l) n P ops Q (o::rest) a w):wpListIn (Fence.wide.inRound l) n P ops Q (o::rest) a w:=h
theorem risLoad {dst:Option Tmp} {type:TypeId} {pos:String} {after:Array Edge} {T:TypeId} {x:Operand} (h:Oper.wp P ⟨dst,.load T x,type,pos,after,none⟩ a w (fun a' w'=>wpListIn (Fence.wide.inRound l) n P ops Q rest a' w') calm):wpListIn (Fence.wide.inRound l) n P ops Q (⟨dst,.load T x,type,pos,after,none⟩::rest) a w:=inr_op rfl rfl h
theorem risStore {dst:Option Tmp} {type:TypeId} {pos:String} {after:Array Edge} {T:TypeId} {x y:Operand} (h:Oper.wp P ⟨dst,.store T x y,type,pos,after,none⟩ a w (fun a' w'=>wpListIn (Fence.wide.inRound l) n P ops Q rest a' w') calm):wpListIn (Fence.wide.inRound l) n P ops Q (⟨dst,.store T x y,type,pos,after,none⟩::rest) a w:=inr_op rfl rfl h
theorem risAllocD {type:TypeId} {pos:String} {after:Array Edge} {T:TypeId} (d:Nat) (h:Oper.wp P ⟨some d,.alloc T,type,pos,after,none⟩ a w (fun a' w'=>wpListIn (Fence.wide.inRound l) n P ops Q rest a' w') calm):wpListIn (Fence.wide.inRound l) n P ops Q (⟨some d,.alloc T,type,pos,after,none⟩::rest) a w:=inr_op rfl rfl h
theorem risBuildSlice {dst:Option Tmp} {type:TypeId} {pos:String} {after:Array Edge} {T:TypeId} {k:Nat} {parts:Array (Nat × Operand)} (h:Oper.wp P ⟨dst,.buildSlice T k parts,type,pos,after,none⟩ a w (fun a' w'=>wpListIn (Fence.wide.inRound l) n P ops Q rest a' w') calm):wpListIn (Fence.wide.inRound l) n P ops Q (⟨dst,.buildSlice T k parts,type,pos,after,none⟩::rest) a w:=inr_op rfl rfl h
theorem risAppend {dst:Option Tmp} {type:TypeId} {pos:String} {after:Array Edge} {s x:Operand} {t:TypeId} (h:Oper.wp P ⟨dst,.call { callee:=.builtin .append,args := #[s,x],argTypes := #[t,t] },type,pos,after,none⟩ a w (fun a' w'=>wpListIn (Fence.wide.inRound l) n P ops Q rest a' w') calm) :
 wpListIn (Fence.wide.inRound l) n P ops Q (⟨dst,.call { callee:=.builtin .append,args := #[s,x],argTypes := #[t,t] },type,pos,after,none⟩::rest) a w:=inr_op rfl rfl h
theorem wp_k1 (k:Nat) (hS:Sat E I ms w) {T:TypeId} {x:Operand} (ho:o.op=.load T x) (hT:Kz P T=some false) {X off:Nat} {c:Array Value} {T':TypeId} {z:Nat × Nat} {v:Value}
  (hx:a.eval x=.pointer (some ⟨X,off,none⟩)) (hm:ms[k]?=some (PH.one X (.cells c T' z))) (hv:c.toList[off]?=some v) (h:K (a.put o.dst v) w):o.wp P a w K Q :=
 wp_ld1 (hS.mle hm) ho hT hx (by simp only [PH.at,PH.one_self];rw [← hv];simp) h
theorem wp_kN (k:Nat) (hS:Sat E I ms w) {T:TypeId} {x:Operand} (ho:o.op=.load T x) (hT:Kz P T=some true) {X:Nat} {c:Array Value} {T':TypeId} {z:Nat × Nat}
  (hx:a.eval x=.pointer (some ⟨X,0,none⟩)) (hm:ms[k]?=some (PH.one X (.cells c T' z))) (hs:Ko P T=some c.size) (h:K (a.put o.dst (.agg c)) w):o.wp P a w K Q :=
 wp_ldN (hS.mle hm) ho hT hx (Cells.one X c T' z) (by rw [hs];simp) h
theorem wp_i1 (hS:Sat E I ms w) {T:TypeId} {x:Operand} (ho:o.op=.load T x) (hT:Kz P T=some false) {X off:Nat} {v:Value}
  (hx:a.eval x=.pointer (some ⟨X,off,none⟩)) (hc:I.at X off=some v) (h:K (a.put o.dst v) w):o.wp P a w K Q :=
 wp_ld1 hS.ile ho hT hx hc h
end
end
section
open Go.ChangeShapes Go.WideShapes Go.ChangeAt Go.RowKit Go.Shelf
attribute [local go_sem] Oper.semAt_some
attribute [local go_sem ↓] wpIn_at_zero wpIn_at_succ
theorem pids_any (p:Option Addr) (w:World) :
  Calls Tryz.prog 165 #[.pointer p] w fun e w'=>e=.returned (.func (.func 172) #[] #[.pointer (some ⟨w.heap.size,0,none⟩)])∧w'=w.alloc (.cells #[.pointer p] 161):=by
 go_enter Tryz.func165,Tryz.ntmps165
 go_wp2
 go_ret
 exact ⟨rfl,rfl⟩
theorem peach_any (p:Option Addr) (w:World) :
  Calls Tryz.prog 154 #[.pointer p] w fun e w'=>e=.returned (.func (.func 164) #[] #[.pointer (some ⟨w.heap.size,0,none⟩)])∧w'=w.alloc (.cells #[.pointer p] 161):=by
 go_enter Tryz.func154,Tryz.ntmps154
 go_wp2
 go_ret
 exact ⟨rfl,rfl⟩
def encNd (x:Nat × G.Nd):Array Value := #[ndA x.1 x.2]
theorem peach1_iter (w:World) (I0:PH) (P Bp:Nat) (p:G.Pl) (hI:I0.le (Qa w)) (hbox:I0.at Bp 0=some (vPt P)) (hR:PoolR I0 P p) :
  Iter Tryz.prog 164 #[.pointer (some ⟨Bp,0,none⟩)] encNd (Kof I0) p.all w:=by
 intro l J Jx W hk hJ hJx hY h0
 have hIW:=Kof.le hk hI
 have c0:=Kb hIW hbox
 have hBl:Bp<W.heap.size:=Kof.lt hIW (fun h=>by unfold PH.at at hbox;rw [h] at hbox;cases hbox)
 refine callsIn_of_wp_marks Tryz.func164 rfl trivial ?_ rfl
 simp only [Tryz.ntmps164,List.size_toArray,yB,yC,Nat.reduceAdd,Nat.reduceSub,Array.replicate_succ,Array.replicate_zero,List.push_toArray,List.append_toArray,List.nil_append,List.cons_append]
 gi_wp2_with (refine wide_call (pids_any _ _) ?_;rintro e w' ⟨rfl,rfl⟩)
 have hb1:Below W.heap.size W (W.alloc (Obj.cells #[Value.func (Fn.yield l) #[] #[]] 242)):=(Below.refl _ _).alloc (Nat.le_refl _) _
 have hby:=Blk.new W 242 #[Value.func (Fn.yield l) #[] #[]]
 generalize hy1:W.alloc (Obj.cells #[Value.func (Fn.yield l) #[] #[]] 242)=W1 at *
 have hb2:Below W1.heap.size W1 (W1.alloc (Obj.cells #[vPt P] 161)):=(Below.refl _ _).alloc (Nat.le_refl _) _
 have hbq:=Blk.new W1 161 #[vPt P]
 have hby2:=hby.alloc (Obj.cells #[vPt P] 161)
 generalize hy2:W1.alloc (Obj.cells #[vPt P] 161)=W2 at *
 have z1:W1.heap.size=W.heap.size+1:=by rw [← hy1];simp
 have z2:W2.heap.size=W.heap.size+2:=by rw [← hy2];simp [z1]
 have hbW:Below W.heap.size W W2:=hb1.trans (hb2.mono (by omega))
 have hKW:∀ b,Kof I0 b→b<W.heap.size:=fun b hb=>Kof.lt hIW hb
 have hI2:I0.le (Qa W2):=fun b o hb=>(hbW.block b (hKW b (by unfold Kof;rw [hb];simp))).trans (hIW b o hb)
 rw [z1] at hbq
 clear hb1 hb2 hy1 hy2 z1 hby c0
 have hKlt:∀ b,(b=W.heap.size+1∨b=W.heap.size∨Kof I0 b)→b<W2.heap.size:=by
  rintro b (rfl|rfl|hb)
  · omega
  · omega
  · have:=hKW b hb;omega
 have hoff:I0.off (PH.one (W.heap.size+1) (.cells #[vPt P] 161)):=fun b=>by
  by_cases hb:b=W.heap.size+1
  · refine .inl ?_
    cases h:I0 b with
    | none=>rfl
    | some o=>have:=hKW b (by unfold Kof;rw [h];simp);omega
  · refine .inr ?_
    unfold PH.one
    rw [if_neg hb]
 have hI3:(I0.join (PH.one (W.heap.size+1) (.cells #[vPt P] 161))).le (Qa W2):=fun b o hb=>by
  by_cases h1:Kof I0 b
  · cases h:I0 b with
    | none=>exact absurd h h1
    | some o' =>
      have:=PH.le_join I0 (PH.one (W.heap.size+1) (.cells #[vPt P] 161)) b o' h
      rw [hb] at this
      cases this
      exact hI2 b o h
  · have h0:I0 b=none:=Classical.not_not.1 h1
    by_cases hb':b=W.heap.size+1
    · subst hb'
      have:=PH.le_join_right hoff (W.heap.size+1) _ (PH.one_self _ _)
      rw [hb] at this
      cases this
      exact hbq
    · unfold PH.join PH.one at hb
      rw [h0] at hb
      simp [hb'] at hb
 have hKof3:∀ b,Kof (I0.join (PH.one (W.heap.size+1) (.cells #[vPt P] 161))) b→b=W.heap.size+1∨b=W.heap.size∨Kof I0 b:=fun b hb=>by
  by_cases h1:Kof I0 b
  · exact .inr (.inr h1)
  · have h0:I0 b=none:=Classical.not_not.1 h1
    by_cases hb':b=W.heap.size+1
    · exact .inl hb'
    · exact absurd (by unfold PH.join PH.one;rw [h0];simp [hb']) hb
 have hids:=ids1_iter W2 (I0.join (PH.one (W.heap.size+1) (.cells #[vPt P] 161))) P (W.heap.size+1) p hI3 (PH.at_le (PH.le_join_right hoff) (Qk rfl)) (hR.le (PH.le_join _ _))
 have hkeepW:∀ W',Keeps (fun b=>b=W.heap.size+1∨b=W.heap.size∨Kof I0 b) W2 W'→I0.le (Qa W')∧Blk W' W.heap.size 242 #[Value.func (Fn.yield l) #[] #[]]:=fun W' hk' =>
  ⟨Kof.le (hk'.sub fun b hb=>.inr (.inr hb)) hI2,(hk'.2 _ (.inr (.inl rfl))).trans hby2⟩
 have hstays:∀ S W3,Stays (fun b=>b=W.heap.size+1∨b=W.heap.size∨Kof I0 b) S W2 W3→W2.heap.size≤W3.heap.size→Stays (Kof I0) S W W3:=fun S W3 h1 h2 =>
  stays_in h1 (by omega) (fun b hb=>.inr (.inr hb)) (fun b hb=>by
   rcases hb with rfl|rfl|h
   · exact .inr (by omega)
   · exact .inr (by omega)
   · exact .inl h) hKlt h2
 clear hI3 hoff
 refine rangeFunc_law (K:=fun b=>b=W.heap.size+1∨b=W.heap.size∨Kof I0 b) (gf:=172) (lb := #[.pointer (some ⟨W.heap.size+1,0,none⟩)]) (w0:=W2) rfl (enters_of Tryz.func172 (by kernel_rfl) rfl)
  (hids.mono hKof3 (Keeps.refl _ _)) (Keeps.refl _ _) hKlt ?hps
  (fun S pre W'=>J S pre W'∧Keeps (fun b=>b=W.heap.size+1∨b=W.heap.size∨Kof I0 b) W2 W')
  (fun S c pre W'=>c=.ret∧Jx S pre W') ?hI ?hIx ?start (fun k a' _=>a'=⟨#[Value.func (Fn.yield l) #[] #[],Value.pointer (some { block:=Bp,off:=0 }),
    Value.pointer (some { block:=W.heap.size,off:=0 }),nv k.1,vPt P,
    Value.func (Fn.func 172) #[] #[Value.pointer (some { block:=W.heap.size+1,off:=0 })],nv k.1,undef,
    undef,undef,undef,undef,undef,undef,undef,undef,undef],[]⟩) ?hAx ?assign ?body ?done ?stop
 case hps=>exact fun _=>rfl
 case hI =>
  intro S
  exact OwnFrom.and (fun pre A B row hs hg hr=>hJ S _ A B row hs hg (fun r e=>⟨by have:=(hr r e).1;omega,(hr r e).2⟩)) (ownFrom_keeps fun b hb=>⟨hKlt b hb,hKlt b hb⟩)
 case hIx =>
  intro S c pre A B row hs hg hr
  exact ⟨hs.1,hJx S _ A B row hs.2 hg (fun r e=>⟨by have:=(hr r e).1;omega,(hr r e).2⟩)⟩
 case start =>
  intro S W' hb hst
  exact ⟨h0 S W' (hbW.trans (hb.mono (by omega))) ⟨fun b hb'=>hst.1 b (.inr (.inr hb')),fun b hb'=>by
   have:=hb.size
   rcases hst.2 b hb' with (rfl|rfl|h)|h
   · exact .inr ⟨by omega,by omega⟩
   · exact .inr ⟨by omega,by omega⟩
   · exact .inl h
   · exact .inr ⟨by omega,h.2⟩⟩,Keeps.of_below hb hKlt⟩
 case hAx=>exact fun x a' s X Y row hs _ _=>hs
 case assign =>
  intro l' S pre x suf W' K' hxs hSl hKS hi hK
  have HK:=fun a'=>hK a' W' (Keeps.refl _ _) hi
  clear hK
  gi_wp2
  exact rfl
 case body =>
  rintro l' S pre x suf a' W' hxs hSl hKS ⟨hj,hkp⟩ rfl
  obtain ⟨q1,q2⟩:=hkeepW W' hkp
  have hjd:J S pre W'.drew:=hJ S _ W' _ none hj ⟨rfl,rfl,rfl,Nat.le_refl _,fun _ _ _=>rfl⟩ (fun r e=>by cases e)
  obtain ⟨fn,tmps,assign,body,hy,hRd⟩:=YieldAt.wide 0 (hY S pre x suf W'.drew hxs hjd)
  obtain ⟨k,nd⟩:=x
  have hmem:(k,nd) ∈ p.all:=by rw [hxs];simp
  have hslot:=G.Pl.mem_all.1 hmem
  have hkl:=(yE.1 hslot).1
  obtain ⟨hfit,A,cA,T,cT,vF,nF,cF,hvF,h1,h2,h3,h4,h5,h6,h7⟩:=id hR
  have hcl:=h6 k _ hslot
  have c1:=Kb q1 h2
  have d0:=Kb q1 (hcl.at 0 rfl)
  have d1:=Kb q1 (hcl.at 1 rfl)
  have d2:=Kb q1 (hcl.at 2 rfl)
  have d3:=Kb q1 (hcl.at 3 rfl)
  have d4:=Kb q1 (hcl.at 4 rfl)
  have c0:=Kb q1 hbox
  have cy:=q2.cell 0
  have ki:(k:Int)<(p.slots.length:Int):=by omega
  have k0:(0:Int)≤(k:Int):=by omega
  have hn2:(p.slots.length:Int)≤1048577:=by have:=hfit.len;have:=hfit.room;omega
  have Hkp:=yH hkp
  have HR:=yH (hRd.mono (R':=fun e w3=>∃ b:Bool,e=.returned (.bool b)∧Hid ((if b=true then J S (pre ++ [(k,nd)]) w3 else Jx S (pre ++ [(k,nd)]) w3)∧Keeps S W'.drew w3)) (by
   rintro e w3 (⟨rfl,h1⟩|⟨rfl,h1⟩)
   · exact ⟨true,rfl,by rw [if_pos rfl];exact h1⟩
   · exact ⟨false,rfl,by rw [if_neg (by simp)];exact h1⟩))
  generalize p.slots.length=n at *
  dsimp only [encNd,ndA,ndC] at hy
  simp only [Nat.add_zero] at d0
  have hmx:Tryz.prog.follows .mixedOrders=true:=by kernel_rfl
  clear hjd hRd q1 q2 hkp hxs hj hkeepW hbW hby2 hbq hY h0 hk hR hids h1 h2 h3 h4 h5 h6 h7 hcl hslot hmem hfit
  gi_wp2
  refine round_tail 8 (by kernel_rfl) (by kernel_rfl) ?_
  simp only [List.take_succ_cons,List.take_zero,List.drop_succ_cons,List.drop_zero]
  repeat still_step
  refine wpStill_nil ?_
  clear d0 d1 d2 d3 d4 c0 cy c1
  gi_wp2
  refine ⟨rfl,?_⟩
  refine HR.out.mono ?_
  clear HR hy
  rintro e w3 ⟨b,rfl,HJ3⟩
  cases b
  · have HJ4:=HJ3.out
    rw [if_neg (by simp)] at HJ4
    have HJ5:=yH HJ4
    clear HJ4 HJ3
    gi_wp2
    exact ⟨⟨HJ5.out.2.1,HJ5.out.2.2⟩,rfl,HJ5.out.1⟩
  · have HJ4:=HJ3.out
    rw [if_pos rfl] at HJ4
    have HJ5:=yH HJ4
    clear HJ4 HJ3
    gi_wp2
    exact ⟨⟨HJ5.out.2.1,HJ5.out.2.2⟩,HJ5.out.1,Hkp.out.trans (Keeps.sub ⟨HJ5.out.2.1,HJ5.out.2.2⟩ hKS)⟩
 case done =>
  rintro D S W3 hD hSS ⟨hj,hkp⟩ hd
  gi_wp2
  refine ⟨by simp,.inl ⟨_,_,rfl,run_takeDeferred hd,?_⟩⟩
  refine ⟨_,results_none rfl _ _ _,⟨_,rfl⟩,S,?_,.inl ?_⟩
  · exact hstays S _ (hSS.putObj _ _) (by rw [World.putObj_size];have:=(Array.getElem?_eq_some_iff.1 hd).1;omega)
  · exact (hJ S).putObj _ hj (by omega) hd rfl
 case stop =>
  rintro D S c pre W3 hD hSS hpre ⟨rfl,hj⟩ hd
  gi_wp2
  refine ⟨by simp,.inl ⟨_,_,rfl,run_takeDeferred hd,?_⟩⟩
  refine ⟨_,results_none rfl _ _ _,⟨_,rfl⟩,S,?_,.inr ⟨pre,hpre,(hJx S).putObj _ hj (by omega) hd rfl⟩⟩
  · exact hstays S _ (hSS.putObj _ _) (by rw [World.putObj_size];have:=(Array.getElem?_eq_some_iff.1 hd).1;omega)
end
end Go.Proofs.YtidamcdklgfogaaGreat
