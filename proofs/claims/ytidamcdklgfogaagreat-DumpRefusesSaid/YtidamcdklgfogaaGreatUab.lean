import Derived.Test.YtidamcdklgfogaaGreatPost
import Derived.Lib.Hide
import Derived.Deep.Light
import Derived.Deep.Draws
import Derived.Laws.Rows
import Derived.Laws.Tables
import Derived.Deep.RegionHeld3
import Derived.Tactics2
import Derived.OrdersIn
import Derived.TacticsIn
set_option linter.unusedVariables false
set_option linter.unusedSimpArgs false
namespace Go.Proofs.YtidamcdklgfogaaGreat
section
end
abbrev jAa:=@if_neg
abbrev jAb:=@if_pos
abbrev jBa:=@List.mem_cons
abbrev jBb:=@Nat.le_refl
abbrev jC:=@Nat.zero_le
abbrev jCa:=@List.not_mem_nil
abbrev jCb:=@List.mem_of_getElem?
abbrev jD:=@decide_eq_false_iff_not
abbrev jDa:=@Array.getElem?_eq_some_iff
abbrev jDb:=@List.map_cons
abbrev jE:=@List.append_assoc
abbrev jEa:=@Option.some.injEq
abbrev jEb:=@if_true
abbrev jF:=@List.mem_map
abbrev jFa:=@Bool.false_eq_true
abbrev jFb:=@Nat.le_trans
abbrev jG:=@Nat.mul_one
abbrev jGa:=@List.map_append
abbrev jGb:=@beq_eq_false_iff_ne
abbrev jH:=@List.mem_append
abbrev jHa:=@List.getElem?_append_left
abbrev jHb:=@List.length_map
abbrev jI:=@Bool.and_eq_true
abbrev jIa:=@Prod.mk.injEq
abbrev jIb:=@List.perm_append_comm
abbrev jJ:=@List.getElem?_eq_none
abbrev jJa:=@List.length_set
abbrev jJb:=@or_false
abbrev jK:=@List.take_of_length_le
abbrev jKa:=@Nat.mod_two_eq_zero_or_one
abbrev jKb:=@List.mem_singleton
abbrev jL:=@List.drop_eq_getElem_cons
abbrev jLa:=@List.pairwise_cons
abbrev jLb:=@Nat.zero_add
abbrev jMa:=@List.nodup_cons
abbrev jMb:=@List.flatMap_cons
abbrev jNa:=@congrArg
abbrev jNb:=@List.flatMap_append
abbrev jO:=@List.getElem?_map
abbrev jOa:=@List.getElem?_append_right
abbrev jOb:=@if_false
abbrev jP:=@List.getElem?_set_self
abbrev jPa:=@decide_eq_true_eq
abbrev jPb:=@decide_eq_true_iff
abbrev jQ:=@List.mem_filter
abbrev jQa:=@List.getElem?_set_ne
abbrev jQb:=@List.eq_nil_of_length_eq_zero
abbrev jR:=@List.take_add_one
abbrev jRa:=@List.mem_append_left
abbrev jRb:=@beq_iff_eq
abbrev jS:=@List.size_toArray
abbrev jSa:=@List.length_take
abbrev jSb:=@Nat.mul_le_mul_right
abbrev jTa:=@Nat.pow_le_pow_right
abbrev jTb:=@List.all_eq_true
abbrev jU:=@List.perm_middle
abbrev jUa:=@beq_self_eq_true
abbrev jUb:=@Array.getElem?_eq_getElem
abbrev jVa:=@decide_eq_false
abbrev jVb:=@List.mem_range
abbrev jW:=@Bool.not_false
abbrev jWa:=@List.mem_map_of_mem
abbrev jWb:=@List.getElem_mem
abbrev jX:=@List.find?_cons_of_neg
abbrev jXa:=@List.map_map
abbrev jXb:=@List.map_congr_left
abbrev jY:=@List.nodup_append
abbrev jYa:=@Int.eq_ofNat_of_zero_le
abbrev jYb:=@Nat.lt_or_ge
abbrev jZ:=@List.map_nil
abbrev jZa:=@Nat.lt_of_lt_of_le
abbrev jZb:=@List.append_nil
abbrev kAa:=@List.find?_eq_none
abbrev kAb:=@List.drop_eq_nil_of_le
abbrev kB:=@Option.map_eq_some_iff
abbrev kBa:=@List.mem_or_eq_of_mem_set
abbrev kBb:=@List.Sublist.refl
abbrev kC:=@Bool.not_true
abbrev kCa:=@Nat.min_eq_left
abbrev kCb:=@List.filter_cons_of_pos
abbrev kD:=@List.filter_cons_of_neg
abbrev kDa:=@List.take_length
abbrev kDb:=@Array.replicate_succ
abbrev kEa:=@List.length_eraseIdx_of_lt
abbrev kEb:=@List.ext_getElem?
abbrev kF:=@List.append_toArray
abbrev kFa:=@Bool.or_eq_true
abbrev kFb:=@List.mem_append_right
abbrev kG:=@List.length_filter_le
abbrev kGa:=@List.take_append_drop
abbrev kGb:=@List.take_append_of_le_length
abbrev kH:=@List.getElem?_take
abbrev kHa:=@List.getElem?_drop
abbrev kHb:=@List.length_drop
abbrev kIa:=@Nat.succ_mul
abbrev kIb:=@Nat.lt_succ_self
abbrev kJ:=@Nat.mod_eq_of_lt
abbrev kJa:=@List.mem_cons_of_mem
abbrev kJb:=@and_true
abbrev kK:=@List.push_toArray
abbrev kKa:=@List.getElem?_range
abbrev kKb:=@List.find?_cons_of_pos
abbrev kLa:=@List.filter_cons
abbrev kLb:=@Array.getElem?_modify
abbrev kM:=@List.length_replicate
abbrev kMa:=@ByteArray.size_append
abbrev kMb:=@List.eq_nil_iff_forall_not_mem
abbrev kN:=@List.getElem?_take_of_lt
abbrev kNa:=@Bool.not_eq_true'
abbrev kNb:=@List.getElem?_set
abbrev kO:=@List.filter_sublist
abbrev kOa:=@List.drop_succ_cons
abbrev kOb:=@List.Perm.refl
abbrev kP:=@decide_eq_true
abbrev kPa:=@List.filter_eq_nil_iff
abbrev kPb:=@Nat.add_mul
abbrev kQ:=@List.length_pos_of_mem
abbrev kQa:=@Nat.le_zero
abbrev kQb:=@Nat.eq_zero_or_pos
abbrev kR:=@List.range_succ
abbrev kRa:=@Array.getElem?_toList
abbrev kRb:=@Bool.eq_iff_iff
abbrev kS:=@true_and
abbrev kSa:=@List.foldl_append
abbrev kSb:=@List.length_insertIdx_of_le_length
abbrev kT:=@List.pairwise_append
abbrev kTa:=@List.mem_of_find?_eq_some
abbrev kTb:=@List.map_toArray
abbrev kU:=@List.mem_flatMap
abbrev kUa:=@List.getElem?_replicate
abbrev kUb:=@Nat.add_sub_cancel
abbrev kVa:=@List.drop_of_length_le
abbrev kVb:=@Int.lt_trichotomy
abbrev kW:=@List.find?_append
abbrev kWa:=@Nat.zero_mul
abbrev kWb:=@Nat.testBit_two_pow_mul_add
abbrev kX:=@List.any_eq_true
abbrev kXa:=@List.findIdx_getElem
abbrev kXb:=@List.mem_iff_getElem
abbrev kY:=@List.mem_of_mem_take
abbrev kYa:=@List.getElem?_of_mem
abbrev kYb:=@Nat.add_assoc
abbrev kZ:=@Array.getElem?_append_left
abbrev kZa:=@List.getD_cons_succ
abbrev kZb:=@List.filter_eq_self
abbrev qA:=@List.getElem_of_mem
abbrev qAa:=@List.getLast?_eq_none_iff
abbrev qAb:=@List.cons.injEq
abbrev qB:=@Nat.two_pow_pos
abbrev qBa:=@List.pairwise_iff_getElem
abbrev qBb:=@List.filter_append
abbrev qC:=@List.Nodup.sublist
abbrev qCa:=@Nat.sub_self
abbrev qCb:=@List.mem_cons_self
abbrev qD:=@List.take_left
abbrev qDa:=@List.drop_zero
theorem yA{α : Type _}{l : List α}{i : Nat}(h : i < l.length) : l[i]? = some l[i] := List.getElem?_eq_getElem h
theorem yB{α : Type _}{a : α}{l : List α} : (a :: l).length = l.length + 1 := List.length_cons
theorem yC{α : Type _} : ([] : List α).length = 0 := List.length_nil
theorem yD{α : Type _}{l : List α}{i : Nat}{a : α} : l.getD i a = l[i]?.getD a := List.getD_eq_getElem?_getD
theorem yE{α : Type _}{i : Nat}{a : α}{l : List α} : l[i]? = some a↔∃h : i < l.length, l[i] = a := List.getElem?_eq_some_iff
theorem yF{α : Type _}{x : Option α} : x.isSome = true↔∃a, x = some a := Option.isSome_iff_exists
theorem yG{α : Type _}{l k : List α} : (l++k).length = l.length + k.length := List.length_append
theorem yH{p : Prop}(h : p) : RowKit.Hid p := Lib.hid h
theorem yI{P : Program}{f : FuncId}{args : Array Value}{w : World}{R R' : Ending -> World -> Prop}(h : Calls P f args w R)(k : ∀(e : Ending) (w' : World), R e w' -> R' e w') : Calls P f args w R' := Calls.mono h k
section
theorem zA{α:Type _}{a:α}{i:Nat}{l:List α}:(a::l)[i+1]?=l[i]?:=List.getElem?_cons_succ
theorem zB{α:Type _}{a:α}{l:List α}:(a::l)[0]?=some a:=List.getElem?_cons_zero
theorem zC{α:Type _}{xs:List α}{i:Nat}:xs.toArray[i]?=xs[i]?:=List.getElem?_toArray
theorem zD{α:Type _}{xs:Array α}{i:Nat}{d:α}:xs.getD i d=xs[i]?.getD d:=Array.getD_eq_getD_getElem?
theorem zE{α:Type _}(l:List α)(i:Nat)(a:α):l.toArray.setIfInBounds i a=(l.set i a).toArray:=List.setIfInBounds_toArray l i a
theorem zF{α:Type _}{x:α}{xs:List α}{i:Nat}{a:α}:(x::xs).set (i+1) a=x::xs.set i a:=List.set_cons_succ
theorem zG{α:Type _}{x:α}{xs:List α}{a:α}:(x::xs).set 0 a=a::xs:=List.set_cons_zero
theorem zH{α:Type _}{x:α}{xs:List α}{n:Nat}{d:α}:(x::xs).getD (n+1) d=xs.getD n d:=kZa
theorem zI{α:Type _}{x:α}{xs:List α}{d:α}:(x::xs).getD 0 d=x:=List.getD_cons_zero
theorem zJ{α:Type _}{a b:α}:(some a).getD b=a:=Option.getD_some
theorem zK{α:Type _}{β:Type _}(a:α)(f:α->Option β):(some a).bind f=f a:=Option.bind_some a f
end
section
open Go.RowKit
abbrev PH:=Nat->Option Obj
def PH.le(I J:PH):Prop:=∀b o,I b=some o->J b=some o
def PH.one(X:Nat)(o:Obj):PH:=λb=>if b=X then some o else none
def PH.join(I J:PH):PH:=λb=>match I b with|some o=>some o|none=>J b
def PH.off(I J:PH):Prop:=∀b,I b=none\/J b=none
def Qa(w:World):PH:=λb=>w.heap[b]?
theorem PH.le.refl(I:PH):I.le I:=λ_ _ h=>h
theorem PH.le.trans{I J K:PH}(h:I.le J)(k:J.le K):I.le K:=λb o hb=>k b o (h b o hb)
theorem PH.le_join(I J:PH):I.le (I.join J):=λb o h=>by simp[PH.join,h]
theorem PH.le_join_right{I J:PH}(h:I.off J):J.le (I.join J):=λb o hb=>by
 rcases h b with hn|hn
 . simp[PH.join,hn,hb]
 . rw[hn] at hb;cases hb
theorem PH.one_self(X:Nat)(o:Obj):PH.one X o X=some o:=by simp[PH.one]
theorem PH.one_some{X b:Nat}{o u:Obj}(h:PH.one X o b=some u):b=X/\u=o:=by
 unfold PH.one at h;split at h
 . rename_i e;exact⟨e,by injection h with h;exact h.symm⟩
 . cases h
structure Sat (E:World) (I:PH) (ms:List PH) (w:World):Prop where
 os:w.os=E.os
 tape:w.tape=E.tape
 output:w.output=E.output
 imm:∀b o,I b=some o->w.heap[b]?=some o
 own:∀m∈ms,∀b o,m b=some o->w.heap[b]?=some o
 sep:∀m∈ms,∀b,m b=none\/I b=none
 dis:ms.Pairwise λm n=>∀b,m b=none\/n b=none
 size:E.heap.size<=w.heap.size
section
variable{E w w':World} {I J:PH} {m m':PH} {ms ns:List PH}
theorem Sat.start(W:World):Sat W (Qa W) [] W :=
 ⟨rfl,rfl,rfl,λ_ _ h=>h,by simp,by simp,.nil,jBb _⟩
theorem Sat.perm(h:Sat E I ms w)(p:ms.Perm ns):Sat E I ns w :=
 ⟨h.os,h.tape,h.output,h.imm,λm hm=>h.own m (p.mem_iff.2 hm),λm hm=>h.sep m (p.mem_iff.2 hm),
  (p.pairwise_iff (λh b=>(h b).symm)).1 h.dis,h.size⟩
theorem Sat.drew(h:Sat E I ms w):Sat E I ms w.drew:=⟨h.os,h.tape,h.output,h.imm,h.own,h.sep,h.dis,h.size⟩
theorem Sat.drewN(h:Sat E I ms w)(n:Nat):Sat E I ms (w.drewN n):=⟨h.os,h.tape,h.output,h.imm,h.own,h.sep,h.dis,h.size⟩
theorem Sat.drawn(h:Sat E I ms w)(n:Nat):Sat E I ms { w with drawn:=n }:=⟨h.os,h.tape,h.output,h.imm,h.own,h.sep,h.dis,h.size⟩
theorem Sat.drop(h:Sat E I (m::ms) w):Sat E I ms w :=
 ⟨h.os,h.tape,h.output,h.imm,λn hn=>h.own n (.tail _ hn),λn hn=>h.sep n (.tail _ hn),(jLa.1 h.dis).2,h.size⟩
theorem Sat.less(h:Sat E J ms w)(k:I.le J):Sat E I ms w :=
 ⟨h.os,h.tape,h.output,λb o hb=>h.imm b o (k b o hb),h.own,λm hm b=>(h.sep m hm b).imp id (λhn=>by
   cases hI:I b with
   | none=>rfl
   | some o=>rw[k b o hI] at hn;cases hn),h.dis,h.size⟩
theorem Sat.lt(h:Sat E I ms w)(hm:m∈ms){b:Nat}{o:Obj}(hb:m b=some o):b<w.heap.size:=by
 have:=h.own m hm b o hb;exact (jDa.1 this).1
theorem Sat.ilt(h:Sat E I ms w){b:Nat}{o:Obj}(hb:I b=some o):b<w.heap.size:=(jDa.1 (h.imm b o hb)).1
theorem Sat.freeze(h:Sat E I (m::ms) w):Sat E (I.join m) ms w:=by
 have hp:=jLa.1 h.dis;refine⟨h.os,h.tape,h.output,λb o hb=>?_,λn hn=>h.own n (.tail _ hn),λn hn b=>?_,hp.2,h.size⟩
 . unfold PH.join at hb
   split at hb
   . rename_i o' e;cases hb;exact h.imm b _ e
   . exact h.own m (.head _) b o hb
 . rcases h.sep n (.tail _ hn) b with h1|h1
   . exact .inl h1
   . rcases hp.1 n hn b with h2|h2
     . exact .inr (by simp[PH.join,h1,h2])
     . exact .inl h2
theorem Sat.off(h:Sat E I ms w)(hm:m∈ms):I.off m:=λb=>(h.sep m hm b).symm
theorem Sat.change(h:Sat E I (m::ms) w)(hz:w.heap.size<=w'.heap.size)(h1:w'.os=w.os)(h2:w'.tape=w.tape)(h3:w'.output=w.output)
  (hk:∀b,b<w.heap.size->m b=none->w'.heap[b]?=w.heap[b]?)
  (hm:∀b o,m' b=some o->w'.heap[b]?=some o)(hn:∀b,m b=none->b<w.heap.size->m' b=none):Sat E I (m'::ms) w':=by
 have hp:=jLa.1 h.dis;have keep:∀n∈ms,∀b o,n b=some o->w'.heap[b]?=some o:=λn hn' b o hb=>by
  have hlt:=h.lt (.tail _ hn') hb;rcases hp.1 n hn' b with h4|h4
  . rw[hk b hlt h4];exact h.own n (.tail _ hn') b o hb
  . rw[h4] at hb;cases hb
 have apart:∀b,(∃o,w.heap[b]?=some o)->m b=none->m' b=none:=λb ⟨o,ho⟩ h4=>hn b h4 (jDa.1 ho).1
 refine⟨h1.trans h.os,h2.trans h.tape,h3.trans h.output,λb o hb=>?_,λn hn'=>?_,λn hn' b=>?_,jLa.2 ⟨λn hn' b=>?_,hp.2⟩,jFb h.size hz⟩
 . have hlt:=h.ilt hb
   rcases h.sep m (.head _) b with h4|h4
   . rw[hk b hlt h4];exact h.imm b o hb
   . rw[h4] at hb;cases hb
 . rcases jBa.1 hn' with rfl|hn'
   . exact hm
   . exact keep n hn'
 . rcases jBa.1 hn' with rfl|hn'
   . cases hI:I b with
     | none=>exact .inr rfl
     | some o =>
       rcases h.sep m (.head _) b with h4|h4
       . exact .inl (apart b ⟨o,h.imm b o hI⟩ h4)
       . rw[hI] at h4;cases h4
   . exact h.sep n (.tail _ hn') b
 . cases hN:n b with
   | none=>exact .inr rfl
   | some o =>
     rcases hp.1 n hn' b with h4|h4
     . exact .inl (apart b ⟨o,h.own n (.tail _ hn') b o hN⟩ h4)
     . rw[hN] at h4;cases h4
theorem Sat.empty(h:Sat E I ms w):Sat E I ((λ_=>none)::ms) w :=
 ⟨h.os,h.tape,h.output,h.imm,λn hn=>by
   rcases jBa.1 hn with rfl|hn
   . intro b o hb;cases hb
   . exact h.own n hn,λn hn b=>by
   rcases jBa.1 hn with rfl|hn
   . exact .inl rfl
   . exact h.sep n hn b,jLa.2 ⟨λ_ _ _=>.inl rfl,h.dis⟩,h.size⟩
theorem Sat.alloc(h:Sat E I ms w)(o:Obj):Sat E I (PH.one w.heap.size o::ms) (w.alloc o):=by
 refine h.empty.change (by simp) rfl rfl rfl (λb hb _=>Below.heap_alloc w o b hb) (λb u hb=>?_) (λb _ hb=>?_)
 . obtain⟨rfl,rfl⟩:=PH.one_some hb
   exact heap_alloc_new w _
 . unfold PH.one;rw[jAa (by omega)]
theorem Sat.set_{X:Nat}{c:Array Value}{T:TypeId}{z:Nat×Nat}(h:Sat E I (PH.one X (.cells c T z)::ms) w)(j:Nat)(v:Value) :
  Sat E I (PH.one X (.cells (c.setIfInBounds j v) T z)::ms) (w.setCell ⟨X,j,none⟩ v):=by
 have hX:=h.own _ (.head _) X _ (PH.one_self _ _);refine h.change (by simp[World.setCell]) rfl rfl rfl (λb _ hb=>Below.heap_setCell w _ v b ?_) (λb u hb=>?_) (λb hb hlt=>?_)
 . rintro rfl
   rw[PH.one_self] at hb;cases hb
 . obtain⟨rfl,rfl⟩:=PH.one_some hb
   simp[World.setCell,kLb,hX]
 . unfold PH.one at hb ⊢
   split at hb
   . cases hb
   . rename_i hne;rw[jAa hne]
theorem Sat.grow(h:Sat E I ms w)(hb:Below w.heap.size w w'):∃J:PH,I.le J/\Sat E J ms w'/\∀b o,w.heap.size<=b->w'.heap[b]?=some o->J b=some o:=by
 refine⟨I.join (λb=>if w.heap.size<=b then w'.heap[b]? else none),PH.le_join _ _,⟨hb.os.trans h.os,hb.tape.trans h.tape,hb.output.trans h.output,λb o hJ=>?_,λm hm b o hmb=>?_,λm hm b=>?_,h.dis,jFb h.size hb.size⟩,λb o hle ho=>?_⟩
 . unfold PH.join at hJ
   split at hJ
   . rename_i o' e;cases hJ;rw[hb.block b (h.ilt e)];exact h.imm b _ e
   . simp only at hJ
     split at hJ
     . exact hJ
     . cases hJ
 . rw[hb.block b (h.lt hm hmb)];exact h.own m hm b o hmb
 . cases hmb:m b with
   | none=>exact .inl rfl
   | some o =>
     refine .inr ?_
     have:=h.lt hm hmb;rcases h.sep m hm b with h1|h1
     . rw[hmb] at h1;cases h1
     . simp only[PH.join,h1];rw[jAa (by omega)]
 . have hI:I b=none:=by
     cases hI:I b with
     | none=>rfl
     | some u=>have:=h.ilt hI;omega
   simp only[PH.join,hI];rw[jAb hle,ho]
theorem Sat.below_(h:Sat E I ms w)(hb:Below w.heap.size w w'):Sat E I ms w':=by
 obtain⟨J,hJ,hs,_⟩:=h.grow hb;exact hs.less hJ
theorem Sat.end_{W:World}(h:Sat W I ms w)(hI:(Qa W).le I):Below W.heap.size W w:=by
 have hk:∀k,k<W.heap.size->w.heap[k]?=W.heap[k]?:=λk hk=>by
  have:=h.imm k W.heap[k] (hI k _ (jUb hk));rw[this,jUb hk]
 refine⟨h.os,h.tape,h.output,?_,hk⟩;rcases jYb w.heap.size W.heap.size with hlt|hge
 . have h1:=hk w.heap.size hlt
   rw[Array.getElem?_eq_none (jBb _),jUb hlt] at h1;cases h1
 . exact hge
theorem Sat.unbase{W:World}(h0:Sat E J ns W)(h:Sat W I ms w):Sat E I ms w:=⟨h.os.trans h0.os,h.tape.trans h0.tape,h.output.trans h0.output,h.imm,h.own,h.sep,h.dis,jFb h0.size h.size⟩
theorem Sat.cell_of(h:Sat E I ms w){X:Nat}{c:Array Value}{T:TypeId}{z:Nat×Nat}(hm:PH.one X (.cells c T z)∈ms)(j:Nat):w.cell? ⟨X,j,none⟩=c[j]? :=
 cell_of_row w X j c T z (h.own _ hm X _ (PH.one_self _ _))
end
end
section
open Go.RowKit
def Yd(o:Oper):List Nat:=(o.after.toList.filter λe=>Region.binds .any e).map (·.on)
def Qd(ops:List Oper)(i:Nat):Oper:=ops.getD i default
def Qi(ops:List Oper)(i:Nat):Option Tmp:=(ops[i]?).bind (·.dst)
def isSelect:Op->Bool
 | .select _ _=>true
 | .defer _=>true
 | _=>false
def ogRow(ops:List Oper)(A:List (List Nat))(sz i:Nat):Bool :=
 (Yd (Qd ops i)).all (λk=>decide (k<i)) &&
 (A.getD i []).all (λj=>(Yd (Qd ops i)).contains j||(Yd (Qd ops i)).any λk=>(A.getD k []).contains j) &&
 !isSelect (Qd ops i).op &&
 (match Qi ops i with|some d=>decide (d<sz)|none=>true)
def ogPair(ops:List Oper)(A:List (List Nat))(i j:Nat):Bool :=
 i==j ||
 (match Qi ops j with
  | none=>true
  | some d=>Qi ops i != some d&&(!((Qd ops i).looksAt ops.toArray).contains d||(decide (j<i)&&(A.getD i []).contains j)||(decide (i<j)&&(A.getD j []).contains i)))
def ogOk(ops:List Oper)(A:List (List Nat))(sz:Nat):Bool :=
 (List.range ops.length).all λi=>ogRow ops A sz i&&(List.range ops.length).all λj=>ogPair ops A i j
def Qo(ops:List Oper)(L:Nat->Bool)(vals:Nat->Value)(a:Act):Nat->Act
 | 0=>a
 | k+1=>if L k then (Qo ops L vals a k).put (Qi ops k) (vals k) else Qo ops L vals a k
def upd{α:Type}(f:Nat->α)(i:Nat)(v:α):Nat->α:=λj=>if j=i then v else f j
theorem Qq{α:Type}(f:Nat->α)(i:Nat)(v:α):upd f i v i=v:=by simp[upd]
theorem Qw{α:Type}(f:Nat->α){i j:Nat}(v:α)(h:j≠i):upd f i v j=f j:=by simp[upd,h]
section
variable{ops:List Oper} {L L':Nat->Bool} {vals:Nat->Value} {a:Act}
theorem actL_size:∀n,(Qo ops L vals a n).tmps.size=a.tmps.size
 | 0=>rfl
 | n+1=>by
   unfold Qo;split
   . cases Qi ops n <;> simp[Act.put,actL_size n]
   . exact actL_size n
theorem put_get_ne(a:Act){d:Option Tmp}{t:Tmp}(v:Value)(h:d≠some t):(a.put d v).tmps[t]?=a.tmps[t]?:=by
 cases d with
 | none=>rfl
 | some d =>
   have hne:d≠t:=λe=>h (by rw[e])
   simp[Act.put,Array.getElem?_setIfInBounds_ne hne]
theorem actL_miss(t:Tmp):∀n,(∀k,k<n->L k=true->Qi ops k≠some t)->(Qo ops L vals a n).tmps[t]?=a.tmps[t]?
 | 0,_=>rfl
 | n+1,h=>by
   unfold Qo;split
   . rename_i hL
     rw[put_get_ne _ _ (h n (by omega) hL)];exact actL_miss t n λk hk=>h k (by omega)
   . exact actL_miss t n λk hk=>h k (by omega)
theorem actL_hit(t:Tmp)(i:Nat)(ht:t<a.tmps.size)(hi:Qi ops i=some t)(hL:L i=true)(hu:∀k,k≠i->Qi ops k≠some t):∀n,i<n->(Qo ops L vals a n).tmps[t]?=some (vals i)
 | 0,h=>by omega
 | n+1,h=>by
   unfold Qo;by_cases hn:n=i
   . subst hn
     rw[jAb hL,hi];simp[Act.put,actL_size,ht]
   . have ih:=actL_hit t i ht hi hL hu n (by omega)
     split
     . rw[put_get_ne _ _ (hu n hn)];exact ih
     . exact ih
theorem actL_low(i:Nat)(b:Bool)(v:Value):∀n,n<=i->Qo ops (upd L i b) (upd vals i v) a n=Qo ops L vals a n
 | 0,_=>rfl
 | n+1,h=>by
   unfold Qo;rw[actL_low i b v n (by omega),Qw _ _ (by omega),Qw _ _ (by omega)]
theorem actL_next(i:Nat)(v:Value)(hi:L i=false)(hu:∀k d,k≠i->Qi ops i=some d->Qi ops k≠some d):∀n,i<n ->
  Qo ops (upd L i true) (upd vals i v) a n=(Qo ops L vals a n).put (Qi ops i) v
 | 0,h=>by omega
 | n+1,h=>by
   by_cases hn:n=i
   . subst hn
     unfold Qo;rw[Qq,Qq,jAb rfl,actL_low _ _ _ _ (jBb _),hi];rfl
   . have ih:=actL_next i v hi hu n (by omega)
     show (if upd L i true n=true then (Qo ops (upd L i true) (upd vals i v) a n).put (Qi ops n) (upd vals i v n) else Qo ops (upd L i true) (upd vals i v) a n)=(if L n=true then (Qo ops L vals a n).put (Qi ops n) (vals n) else Qo ops L vals a n).put (Qi ops i) v
     rw[Qw _ _ hn,Qw _ _ hn,ih];split
     . exact (Act.put_comm _ _ _ λd hd=>λhe=>hu n d hn hd he)
     . rfl
theorem Xf:∀n,(Qo ops L vals a n).defers=a.defers
 | 0=>rfl
 | n+1=>by
   unfold Qo;split
   . cases Qi ops n <;> simp[Act.put,Xf n]
   . exact Xf n
end
abbrev Qc(ops:List Oper)(vals:Nat->Value)(a:Act)(n:Nat):Act:=Qo ops (λ_=>true) vals a n
def Qk(o:Oper)(a:Act):Value:=match o.dst with|some d=>a.tmps.getD d undef|none=>undef
def calm:Exit->Act->World->Prop:=λ_ _ _=>False
def Ze(P:Program)(ops:List Oper)(o:Oper)(K:Act->World->Prop)(a:Act)(w:World):Prop :=
 if Region.wanted o (yielded ops.toArray a.tmps) then o.wp P a w K calm else K (a.put o.dst undef) w
section
variable{P:Program} {Q:Exit->Act->World->Prop} {ops:List Oper} {A:List (List Nat)} {a0:Act}
theorem og_row{sz:Nat}(h:ogOk ops A sz=true){i:Nat}(hi:i<ops.length):ogRow ops A sz i=true/\∀j,j<ops.length->ogPair ops A i j=true:=by
 unfold ogOk at h;rw[jTb] at h
 have:=h i (jVb.2 hi);rw[jI,jTb] at this;exact⟨this.1,λj hj=>this.2 j (jVb.2 hj)⟩
theorem og_dst_lt{i:Nat}{d:Tmp}(h:Qi ops i=some d):i<ops.length:=by
 unfold Qi at h;rcases jYb i ops.length with hl|hl
 . exact hl
 . rw[jJ hl] at h;cases h
theorem og_unique{sz:Nat}(h:ogOk ops A sz=true){i k:Nat}{d:Tmp}(hne:k≠i)(hi:Qi ops i=some d):Qi ops k≠some d:=by
 intro hk
 have:=(og_row h (og_dst_lt hk)).2 i (og_dst_lt hi);unfold ogPair at this;simp only[hi,hk,kFa,jI] at this;rcases this with h1|h1
 . exact hne (by simpa using h1)
 . simp at h1
theorem og_anc{sz:Nat}(h:ogOk ops A sz=true){L:Nat->Bool}(hdown:∀k,k<ops.length->L k=true->∀j∈Yd (Qd ops k),L j=true) :
  ∀i,i<ops.length->(∀j∈Yd (Qd ops i),L j=true)->∀j∈A.getD i [],L j=true:=by
 intro i
 induction i using Nat.strongRecOn with
 | _ i ih =>
   intro hi hd j hj;have hr:=(og_row h hi).1;unfold ogRow at hr;simp only[jI,jTb] at hr;obtain⟨⟨⟨h1,h2⟩,_⟩,_⟩:=hr
   have:=h2 j hj;rw[kFa] at this;rcases this with h3|h3
   . exact hd j (by simpa using h3)
   . rw[kX] at h3
     obtain⟨k,hk,hjk⟩:=h3;have hki:k<i:=by simpa using h1 k hk
     have hkl:L k=true:=hd k hk;exact ih k hki (by omega) (hdown k (by omega) hkl) j (by simpa using hjk)
end
theorem og_lt{ops:List Oper}{A:List (List Nat)}{sz:Nat}(h:ogOk ops A sz=true):∀i,i<ops.length->∀j∈A.getD i [],j<i:=by
 intro i
 induction i using Nat.strongRecOn with
 | _ i ih =>
   intro hi j hj;have hr:=(og_row h hi).1;unfold ogRow at hr;simp only[jI,jTb] at hr;obtain⟨⟨⟨h1,h2⟩,_⟩,_⟩:=hr
   have:=h2 j hj;rw[kFa] at this;rcases this with h3|h3
   . simpa using h1 j (by simpa using h3)
   . rw[kX] at h3
     obtain⟨k,hk,hjk⟩:=h3;have hki:k<i:=by simpa using h1 k hk
     have:=ih k hki (by omega) j (by simpa using hjk);omega
theorem Xg{P:Program}{ops:List Oper}{o:Oper}{K K':Act->World->Prop}{a:Act}{w:World}(h:Ze P ops o K a w)(hk:∀a w,K a w->K' a w):Ze P ops o K' a w:=by
 unfold Ze at h ⊢;split
 . rename_i hw;rw[jAb hw] at h;exact Oper.wp_mono hk h
 . rename_i hw;rw[jAa hw] at h;exact hk _ _ h
theorem wpStep_of{P:Program}{ops:List Oper}{o:Oper}{K:Act->World->Prop}{a:Act}{w:World}(h:∀K':Act->World->Prop,(∀a w,K a w->K' a w)->if Region.wanted o (yielded ops.toArray a.tmps) then o.wp P a w K' calm else K' (a.put o.dst undef) w):Ze P ops o K a w :=
 h K λ_ _ hk=>hk
theorem outOf_put{o:Oper}{a:Act}{v:Value}(h:∀d,o.dst=some d->d<a.tmps.size):∀d,o.dst=some d->Qk o (a.put o.dst v)=v:=by
 intro d hd;unfold Qk;rw[hd]
 have:=h d hd;simp[Act.put,this]
theorem wpStep_carry{P:Program}{ops:List Oper}{o:Oper}{a b:Act}{w:World}{R:Value->World->Prop}{K:Act->World->Prop}{Q:Exit->Act->World->Prop}
  (hs:isSelect o.op=false)(hlook:∀t∈o.looksAt ops.toArray,a.tmps.getD t undef=b.tmps.getD t undef/\a.tmps[t]?=b.tmps[t]?)
  (hin:∀d,o.dst=some d->d<a.tmps.size)
  (h:Ze P ops o (λa' w'=>a'.defers=a.defers/\R (Qk o a') w') a w)(hK:∀v w',R (match o.dst with|some _=>v|none=>undef) w'->K (b.put o.dst v) w') :
  (if Region.wanted o (yielded ops.toArray b.tmps) then o.wp P b w K Q\/(o.asks P b w/\LetsOut Q) else K (b.put o.dst undef) w):=by
 have hrun:execOp b.eval o=execOp a.eval o:=execOp_congr o (λcs bl he=>by rw[he] at hs;cases hs) λx hx=>by
  cases x with
  | tmp t =>
    refine ((hlook t ?_).1).symm;exact jRa _ (List.mem_filterMap.2 ⟨.tmp t,by simpa using hx,rfl⟩)
  | const v=>rfl
  | global g=>rfl
  | func f=>rfl
 have hw:Region.wanted o (yielded ops.toArray b.tmps)=Region.wanted o (yielded ops.toArray a.tmps):=by
  unfold Region.wanted;cases hg:o.guard with
  | none=>rfl
  | some gw =>
    obtain⟨g,want⟩:=gw;have hy:yielded ops.toArray b.tmps g=yielded ops.toArray a.tmps g:=by
     unfold yielded;cases ht:(ops.toArray[g]?).bind (·.dst) with
     | none=>rfl
     | some t =>
       have hmem:t∈o.looksAt ops.toArray:=by
        unfold Oper.looksAt;rw[hg];simp only[ht];exact kFb _ (by simp)
       simp[(hlook t hmem).2]
    simp only[hy]
 have out:∀v:Value,Qk o (a.put o.dst v)=(match o.dst with|some _=>v|none=>undef):=λv=>by
  cases hd':o.dst with
  | none=>simp[Qk,hd']
  | some d =>
    have:=outOf_put (v:=v) hin d hd';rw[hd'] at this;exact this
 rw[hw];unfold Ze at h;split
 . rename_i hwant
   rw[jAb hwant] at h;refine .inl ?_;unfold Oper.wp at h ⊢;rw[hrun];generalize (execOp a.eval o).run P w=r at h ⊢;cases r with
   | ok n w' =>
     cases n <;> simp only[Oper.upon,calm] at h ⊢
     case value v=>exact hK v w' (by rw[<- out];exact h.2)
     case skip=>exact hK undef w' (by rw[<- out];exact h.2)
     case defer d =>
      have h1:(d::a.defers)=a.defers:=by
       have:=h.1
       rwa [show ({ a with defers:=d::a.defers }:Act).put o.dst undef=({ a with defers:=d::a.defers }:Act).put o.dst undef from rfl,show (({ a with defers:=d::a.defers }:Act).put o.dst undef).defers=d::a.defers by cases o.dst <;> rfl] at this
      exact absurd (jNa List.length h1) (by simp)
     case enter f args =>
      refine yI h λe w'' he=>?_
      cases e with
      | returned v=>exact hK v w'' (by rw[<- out];exact he.2)
      | panicked c=>exact he.elim
      | outgrown=>obtain⟨_,_,hf⟩:=he;exact hf.elim
     case row row args=>exact Rows.mono h λv w'' he=>hK v w'' (by rw[<- out];exact he.2)
   | halt x w'=>cases x <;> simp only[Oper.upon,calm] at h ⊢
 . rename_i hwant
   rw[jAa hwant] at h;exact hK undef w (by rw[<- out];exact h.2)
theorem actL_congr{ops:List Oper}{L L':Nat->Bool}{vals:Nat->Value}{a:Act}:∀n,(∀k,k<n->L k=L' k)->Qo ops L vals a n=Qo ops L' vals a n
 | 0,_=>rfl
 | n+1,h=>by
   unfold Qo;rw[actL_congr n (λk hk=>h k (by omega)),h n (by omega)]
theorem opAt_some{ops:List Oper}{i:Nat}(h:i<ops.length):ops[i]?=some (Qd ops i):=by
 unfold Qd;simp[h]
theorem dstAt_eq{ops:List Oper}{i:Nat}(h:i<ops.length):Qi ops i=(Qd ops i).dst:=by
 unfold Qi;rw[opAt_some h];rfl
theorem looks_same{ops:List Oper}{A:List (List Nat)}{a:Act}{L:Nat->Bool}{vals:Nat->Value}(chk:ogOk ops A a.tmps.size=true)
  (hdown:∀k,k<ops.length->L k=true->∀j∈Yd (Qd ops k),L j=true){i:Nat}(hi:i<ops.length)(hLi:L i=false)(hanc:∀j∈A.getD i [],L j=true)
  {t:Tmp}(ht:t∈(Qd ops i).looksAt ops.toArray):(Qc ops vals a i).tmps[t]?=(Qo ops L vals a ops.length).tmps[t]?:=by
 by_cases hk:∃k,Qi ops k=some t
 . obtain⟨k,hk⟩:=hk
   have hkl:=og_dst_lt hk;have uniq:∀k',k'≠k->Qi ops k'≠some t:=λk' hne=>og_unique chk hne hk
   have missT:i<=k->(Qc ops vals a i).tmps[t]?=a.tmps[t]?:=λhle=>actL_miss t i λk' hk' _=>uniq k' (by omega)
   have missL:L k=false->(Qo ops L vals a ops.length).tmps[t]?=a.tmps[t]?:=λhf=>actL_miss t _ λk' _ hL'=>uniq k' (by rintro rfl;rw[hf] at hL';cases hL')
   by_cases hik:k=i
   . subst hik
     rw[missT (jBb _),missL hLi]
   . have hp:=(og_row chk hi).2 k hkl
     unfold ogPair at hp;simp only[hk,kFa,jI] at hp;rcases hp with h1|⟨_,h1⟩
     . exact absurd (by simpa using h1) (Ne.symm hik)
     . rcases h1 with (h1|⟨h1,h2⟩)|⟨h1,h2⟩
       . simp at h1;exact absurd ht h1
       . have hki:k<i:=by simpa using h1
         have hLk:=hanc k (by simpa using h2);have hts:t<a.tmps.size:=by
          have:=(og_row chk hkl).1;unfold ogRow at this;simp only[hk,jI] at this
          simpa using this.2
         rw[actL_hit t k hts hk rfl uniq i hki,actL_hit t k hts hk hLk uniq _ hkl]
       . have hik':i<k:=by simpa using h1
         have hLk:L k=false:=by
          cases hb:L k with
          | false=>rfl
          | true =>
            have:=og_anc chk hdown k hkl (hdown k hkl hb) i (by simpa using h2);rw[hLi] at this;cases this
         rw[missT (by omega),missL hLk]
 . have hn:∀k,Qi ops k≠some t:=λk h=>hk ⟨k,h⟩
   rw[actL_miss t i λk _ _=>hn k,actL_miss t _ λk _ _=>hn k]
theorem region_og{P:Program}{id:Nat}{ops:List Oper}{Q:Exit->Act->World->Prop}{a:Act}{w:World}(A:List (List Nat))(E:World)(I:PH)(ro ms:List PH)
  (D:Nat->Value->PH->Prop)(MS:(Nat->Bool)->(Nat->Value)->PH->List PH->Prop)
  (hm:P.follows .mixedOrders=true)(chk:ogOk ops A a.tmps.size=true)
  (hS:Sat E I (ro++ms) w)(hMS:MS (λ_=>false) (λ_=>undef) I ms)(mono:∀i v I J,PH.le I J->D i v I->D i v J)
  (step:∀i,i<ops.length->∀(L:Nat->Bool) (vals:Nat->Value) (J:PH) (ns:List PH) (w':World),L i=false->(∀j,j<ops.length->L j=true->∀k∈A.getD j [],L k=true)->(∀j∈A.getD i [],L j=true/\D j (vals j) J)->I.le J->Sat E J (ro++ns) w'->MS L vals J ns ->
    Ze P ops (Qd ops i) (λa' w''=>a'.defers=a.defers/\∃(J':PH) (ns':List PH),J.le J'/\Sat E J' (ro++ns') w''/\D i (Qk (Qd ops i) a') J'/\MS (upd L i true) (upd vals i (Qk (Qd ops i) a')) J' ns') (Qc ops vals a i) w')
  (fin:∀(vals:Nat->Value) (J:PH) (ns:List PH) (w':World),I.le J->(∀j,j<ops.length->D j (vals j) J)->Sat E J (ro++ns) w'->(∃L,(∀j,j<ops.length->L j=true)/\MS L vals J ns)->Q .normal (Qc ops vals a ops.length) w') :
  (Code.region id ops.toArray true).wp P Q a w:=by
 refine wp_region_any hm ?_;have key:∀(fuel:Nat) (listed:Array Bool) (L:Nat->Bool) (vals:Nat->Value) (J:PH) (ns:List PH) (w':World),listed.size=ops.length->(∀j,j<ops.length->listed.getD j false=L j) ->
   (∀k,k<ops.length->L k=true->∀j∈Yd (Qd ops k),L j=true)->I.le J->(∀j,L j=true->D j (vals j) J)->Sat E J (ro++ns) w'->MS L vals J ns ->
   ((List.range ops.length).filter λj=>!L j).length<=fuel->wpAny P .any ops.toArray Q fuel listed (Qo ops L vals a ops.length) w':=by
  intro fuel
  induction fuel with
  | zero =>
    intro listed L vals J ns w' hsz hL hdown hJ hD hs hms hf;have hall:∀j,j<ops.length->L j=true:=by
     intro j hj;have h0:((List.range ops.length).filter λj=>!L j)=[]:=jQb (by omega);rw[kPa] at h0
     have:=h0 j (jVb.2 hj)
     simpa using this
    have hr:Region.ready .any ops.toArray listed=[]:=by
     refine kMb.2 λj hj=>?_
     obtain⟨h1,o,ho,_⟩:=mem_ready.1 hj;have hjl:j<ops.length:=by simpa using (jDa.1 ho).1
     have h2:=hL j hjl;rw[hall j hjl] at h2
     have:listed.getD j true=true:=by
      have hjs:j<listed.size:=by omega
      simp[hjs] at h2 ⊢
      exact h2
     rw[this] at h1;cases h1
    refine⟨hr,?_⟩;rw[actL_congr (L':=λ_=>true) _ hall];exact fin vals J ns w' hJ (λj hj=>hD j (hall j hj)) hs ⟨L,hall,hms⟩
  | succ fuel ih =>
    intro listed L vals J ns w' hsz hL hdown hJ hD hs hms hf;refine⟨λhr=>?_,λi hi=>?_⟩
    . have hall:∀j,j<ops.length->L j=true:=by
        intro j
        induction j using Nat.strongRecOn with
        | _ j ihj =>
          intro hj;cases hb:L j with
          | true=>rfl
          | false =>
            exfalso
            have hrow:=(og_row chk hj).1;unfold ogRow at hrow;simp only[jI,jTb] at hrow;have hmem:j∈Region.ready .any ops.toArray listed:=by
             refine mem_ready.2 ⟨?_,Qd ops j,by simpa using opAt_some hj,λe he hbd=>?_⟩
             . have h2:=hL j hj
               rw[hb] at h2;have hjs:j<listed.size:=by omega
               simp[hjs] at h2 ⊢
               exact h2
             . have hin:e.on∈Yd (Qd ops j):=jF.2 ⟨e,jQ.2 ⟨by simpa using he,hbd⟩,rfl⟩
               have hlt:e.on<j:=by simpa using hrow.1.1.1 e.on hin
               rw[hL e.on (by omega)];exact ihj e.on hlt (by omega)
            rw[hr] at hmem;cases hmem
      rw[actL_congr (L':=λ_=>true) _ hall];exact fin vals J ns w' hJ (λj hj=>hD j (hall j hj)) hs ⟨L,hall,hms⟩
    . obtain⟨h1,o,ho,hedges⟩:=mem_ready.1 hi
      have hil:i<ops.length:=by simpa using (jDa.1 ho).1
      have hoe:o=Qd ops i:=by
       have:=opAt_some hil;have h2:ops[i]?=some o:=by simpa using ho
       rw[this] at h2;injection h2 with h2;exact h2.symm
      subst hoe;have his:i<listed.size:=by omega
      have hLi:L i=false:=by
       rw[<- hL i hil];simp[his] at h1 ⊢
       exact h1
      have hdir:∀j∈Yd (Qd ops i),L j=true:=by
       intro j hj;obtain⟨e,he,rfl⟩:=jF.1 hj;obtain⟨he1,he2⟩:=jQ.1 he
       have:=hedges e (by simpa using he1) he2;have hrow:=(og_row chk hil).1;unfold ogRow at hrow;simp only[jI,jTb] at hrow;have hlt:e.on<i:=by simpa using hrow.1.1.1 e.on hj
       rw[<- hL e.on (by omega)];exact this
      have hanc:=og_anc chk hdown i hil hdir;have hrow:=(og_row chk hil).1;unfold ogRow at hrow;simp only[jI] at hrow;have hst:=step i hil L vals J ns w' hLi (λj hj hLj=>og_anc chk hdown j hj (hdown j hj hLj)) (λj hj=>⟨hanc j hj,hD j (hanc j hj)⟩) hJ hs hms;have hsel:isSelect (Qd ops i).op=false:=by simpa using hrow.1.2
      have hds:∀d,(Qd ops i).dst=some d->d<(Qc ops vals a i).tmps.size:=by
       intro d hd;rw[actL_size]
       have:=hrow.2;rw[dstAt_eq hil,hd] at this
       simpa using this
      have:=wpStep_carry (b:=Qo ops L vals a ops.length) (Q:=Q) (K:=wpAny P .any ops.toArray Q fuel (listed.setIfInBounds i true)) (R:=λv w''=>∃(J':PH) (ns':List PH),J.le J'/\Sat E J' (ro++ns') w''/\D i v J'/\MS (upd L i true) (upd vals i v) J' ns')
       hsel (λt ht=>by
        have:=looks_same (vals:=vals) chk hdown hil hLi hanc ht;exact⟨by rw[zD,zD,this],this⟩) hds (by
        rw[show (Qc ops vals a i).defers=a.defers from Xf i];exact hst) (λv w'' hR=>by
        obtain⟨J',ns',hJ',hs',hD',hms'⟩:=hR;have hput:(Qo ops L vals a ops.length).put (Qd ops i).dst v=Qo ops (upd L i true) (upd vals i (match (Qd ops i).dst with|some _=>v|none=>undef)) a ops.length:=by
         rw[actL_next i _ hLi (λk d hne hd=>og_unique chk hne hd) _ hil,dstAt_eq hil];cases (Qd ops i).dst <;> rfl
        rw[hput];refine ih _ _ _ J' ns' w'' (by simp[hsz]) (λj hj=>?_) (λk hk hLk j hj=>?_) (hJ.trans hJ') (λj hj=>?_) hs' hms' ?_
        . by_cases hji:j=i
          . subst hji;rw[Qq];simp[his]
          . rw[Qw _ _ hji,<- hL j hj,getD_set_ne false (Ne.symm hji)]
        . by_cases hji:j=i
          . subst hji;exact Qq _ _ _
          . rw[Qw _ _ hji]
            by_cases hki:k=i
            . subst hki;exact hdir j hj
            . rw[Qw _ _ hki] at hLk;exact hdown k hk hLk j hj
        . by_cases hji:j=i
          . subst hji;rw[Qq];exact hD'
          . rw[Qw _ _ hji] at hj ⊢
            exact mono _ _ _ _ hJ' (hD j hj)
        . have hmem:i∈(List.range ops.length).filter λj=>!L j:=jQ.2 ⟨jVb.2 hil,by simp[hLi]⟩
          have hlt:((List.range ops.length).filter λj=>!(upd L i true) j).length<((List.range ops.length).filter λj=>!L j).length:=by
           have e:((List.range ops.length).filter λj=>!(upd L i true) j)=((List.range ops.length).filter λj=>!L j).filter λj=>j != i:=by
            rw[List.filter_filter];refine List.filter_congr λj _=>?_
            by_cases hji:j=i
            . subst hji;simp[upd]
            . simp[upd,hji]
           rw[e];exact List.length_filter_lt_length_iff_exists.2 ⟨i,hmem,by simp⟩
          omega)
      unfold wpOp;rw[ho];exact this
 have h0:Qo ops (λ_=>false) (λ_=>undef) a ops.length=a:=by
  have:∀n,Qo ops (λ_=>false) (λ_=>undef) a n=a:=λn=>by
   induction n with
   | zero=>rfl
   | succ n ihn=>unfold Qo;simpa using ihn
  exact this _
 have hk:=key ops.toArray.size (Array.replicate ops.toArray.size false) (λ_=>false) (λ_=>undef) I ms { w with drawn:=w.drawn+1 } (by simp) (λj hj=>by simp[hj]) (λ_ _ h=>by cases h) (PH.le.refl _) (λ_ h=>by cases h) (hS.drawn _) hMS (by
  refine jFb (kG _ _) (by simp))
 rw[h0] at hk;exact hk
structure Bx where
 i:Nat
 s:Nat
 T:TypeId
 z:Array Value
 C:Array Value->PH->Prop
def Bx.st(b:Bx)(L:Nat->Bool)(vals:Nat->Value)(J:PH)(m:PH):Prop :=
 if L b.i=true then ∃X cs,vals b.i=.pointer (some ⟨X,0,none⟩)/\m=PH.one X (.cells cs b.T)/\cs.size=b.z.size/\(if L b.s=true then b.C cs J else cs=b.z) else m=λ_=>none
theorem Bx.st_other{b:Bx}{L:Nat->Bool}{vals:Nat->Value}{J:PH}{m:PH}{k:Nat}(v:Value)(hi:k≠b.i)(hs:k≠b.s):b.st (upd L k true) (upd vals k v) J m=b.st L vals J m:=by
 unfold Bx.st;rw[Qw _ _ (Ne.symm hi),Qw _ _ (Ne.symm hs),Qw _ _ (Ne.symm hi)]
inductive Bxs (L:Nat->Bool) (vals:Nat->Value) (J:PH):List Bx->List PH->Prop
 | nil:Bxs L vals J [] []
 | cons {b bs m ms}:b.st L vals J m->Bxs L vals J bs ms->Bxs L vals J (b::bs) (m::ms)
end
section
open Go.RowKit
section
variable{L:Nat->Bool} {vals:Nat->Value} {J:PH}
theorem Bxs.at_{bxs:List Bx}{bs:List PH}(h:Bxs L vals J bxs bs)(hd:bxs.Pairwise λb c=>b.i≠c.i/\b.i≠c.s/\b.s≠c.i/\b.s≠c.s){b:Bx}(hb:b∈bxs){k:Nat}(hk:k=b.i\/k=b.s)(v:Value)(J':PH)
  (mono:∀c∈bxs,∀cs,c.C cs J->c.C cs J') :
  ∃pre m post,bs=pre++m::post/\b.st L vals J m/\∀m',b.st (upd L k true) (upd vals k v) J' m'->Bxs (upd L k true) (upd vals k v) J' bxs (pre++m'::post):=by
 have grow:∀c∈bxs,∀m,k≠c.i->k≠c.s->c.st L vals J m->c.st (upd L k true) (upd vals k v) J' m:=λc hc m h1 h2 hst=>by
  rw[Bx.st_other v h1 h2];unfold Bx.st at hst ⊢;split
  . rename_i hL
    rw[jAb hL] at hst;obtain⟨X,cs,e1,e2,e3,e4⟩:=hst;refine⟨X,cs,e1,e2,e3,?_⟩;split
    . rename_i hs;rw[jAb hs] at e4;exact mono c hc cs e4
    . rename_i hs;rw[jAa hs] at e4;exact e4
  . rename_i hL;rw[jAa hL] at hst;exact hst
 induction h with
 | nil=>cases hb
 | @cons c bs' m ms hst hrest ih =>
   have hp:=jLa.1 hd;by_cases hbc:b=c
   . subst hbc
     refine⟨[],m,ms,rfl,hst,λm' hm'=>.cons hm' ?_⟩;have rest_:∀{cs:List Bx} {ms:List PH},Bxs L vals J cs ms->(∀c∈cs,c∈b::bs'/\(k≠c.i/\k≠c.s))->Bxs (upd L k true) (upd vals k v) J' cs ms:=by
      intro cs ms hB hne
      induction hB with
      | nil=>exact .nil
      | @cons c' _ m' _ h1 _ ih' =>
        have:=hne c' (.head _);exact .cons (grow c' this.1 m' this.2.1 this.2.2 h1) (ih' λx hx=>hne x (.tail _ hx))
     refine rest_ hrest λx hx=>⟨.tail _ hx,?_⟩
     have:=hp.1 x hx;rcases hk with rfl|rfl
     . exact⟨this.1,this.2.1⟩
     . exact⟨this.2.2.1,this.2.2.2⟩
   . have hb':b∈bs':=by
       rcases jBa.1 hb with h|h
       . exact absurd h hbc
       . exact h
     obtain⟨pre,m0,post,e,h1,h2⟩:=ih hp.2 hb' (λx hx=>mono x (.tail _ hx)) (λx hx=>grow x (.tail _ hx));subst e;refine⟨m::pre,m0,post,rfl,h1,λm' hm'=>.cons ?_ (h2 m' hm')⟩
     have:=hp.1 b hb';refine grow c (.head _) m ?_ ?_ hst
     . rcases hk with rfl|rfl
       . exact Ne.symm this.1
       . exact Ne.symm this.2.1
     . rcases hk with rfl|rfl
       . exact Ne.symm this.2.2.1
       . exact Ne.symm this.2.2.2
theorem Bxs.more{bxs:List Bx}{bs:List PH}(h:Bxs L vals J bxs bs){k:Nat}(hne:∀b∈bxs,k≠b.i/\k≠b.s)(v:Value)(J':PH)(mono:∀c∈bxs,∀cs,c.C cs J->c.C cs J'):Bxs (upd L k true) (upd vals k v) J' bxs bs:=by
 induction h with
 | nil=>exact .nil
 | @cons c _ m _ hst _ ih =>
   refine .cons ?_ (ih (λb hb=>hne b (.tail _ hb)) λc hc=>mono c (.tail _ hc));rw[Bx.st_other v (hne c (.head _)).1 (hne c (.head _)).2];unfold Bx.st at hst ⊢;split
   . rename_i hL
     rw[jAb hL] at hst;obtain⟨X,cs,e1,e2,e3,e4⟩:=hst;refine⟨X,cs,e1,e2,e3,?_⟩;split
     . rename_i hs;rw[jAb hs] at e4;exact mono c (.head _) cs e4
     . rename_i hs;rw[jAa hs] at e4;exact e4
   . rename_i hL;rw[jAa hL] at hst;exact hst
theorem Bxs.start(bxs:List Bx)(vals:Nat->Value)(J:PH):Bxs (λ_=>false) vals J bxs (bxs.map λ_ _=>none):=by
 induction bxs with
 | nil=>exact .nil
 | cons b bs ih=>exact .cons (by unfold Bx.st;rw[jAa (by simp)]) ih
end
theorem Sat.empties{E w:World}{I:PH}{ms:List PH}(h:Sat E I ms w):∀bxs:List Bx,Sat E I ((bxs.map λ_ _=>none)++ms) w
 | []=>h
 | _::bs=>(h.empties bs).empty
section
variable{P:Program} {w:World}
theorem run_alloc_S{T:TypeId}{z:Value}(hz:(P.info? T).bind (·.zero)=some z):(Instr.alloc T true (.tuple #[])).run P w=.ok (.pointer (some ⟨w.heap.size,0,none⟩)) (w.alloc (.cells z.cells T)):=by
 cases hq:P.info? T with
 | none=>rw[hq] at hz;cases hz
 | some i =>
   have hi:i.zero=some z:=by rw[hq] at hz;exact hz
   simp[Instr.alloc,zeroValue,typeInfo,hq,hi,newVar,newRow]
theorem run_storeVar_S{g:Nat}{t ty:TypeId}{old:Array Value}{v:Value}(hg:w.heap[g]?=some (.cells old t (0,0)))(hi:(P.info? ty).map (·.size)=some v.cells.size)
  (ho:old.size=v.cells.size)(h1:v.cells.all (·.oneCell')=true):(storeVar ty ⟨g,0,none⟩ v).run P w=.ok () (w.setRow g v.cells):=by
 have:=run_storeCells_from (P:=P) g t v.cells.toList 0 old w hg (by simp;omega) (λv hv=>(Array.all_eq_true_iff_forall_mem.1 h1) v (by simpa using hv));cases hq:P.info? ty with
 | none=>simp[hq] at hi
 | some i =>
   have hs:v.cells.size=i.size:=by simp[hq] at hi;omega
   simp[storeVar,sizeOf,typeInfo,hq,hs,this]
end
theorem Bxs.all{L:Nat->Bool}{vals:Nat->Value}{J:PH}{bxs:List Bx}{bs:List PH}(h:Bxs L vals J bxs bs)(hL:∀b∈bxs,L b.i=true/\L b.s=true):Bxs (λ_=>true) vals J bxs bs:=by
 induction h with
 | nil=>exact .nil
 | @cons c _ m _ hst _ ih =>
   refine .cons ?_ (ih λb hb=>hL b (.tail _ hb));unfold Bx.st at hst ⊢;rw[(hL c (.head _)).1,(hL c (.head _)).2] at hst;exact hst
theorem setRow_step{E w:World}{I:PH}{ms:List PH}{X:Nat}{c c':Array Value}{T:TypeId}(h:Sat E I (PH.one X (.cells c T)::ms) w):Sat E I (PH.one X (.cells c' T)::ms) (w.setRow X c'):=by
 have hX:=h.own _ (.head _) X _ (PH.one_self _ _);refine h.change (by simp[World.setRow]) rfl rfl rfl (λb _ hb=>?_) (λb u hb=>?_) (λb hb hlt=>?_)
 . have hne:b≠X:=by
     rintro rfl;rw[PH.one_self] at hb;cases hb
   simp only[World.setRow,kLb];rw[jAa (Ne.symm hne)]
 . obtain⟨rfl,rfl⟩:=PH.one_some hb
   exact setRow_heap w b c c' T (0,0) hX
 . unfold PH.one at hb ⊢
   split at hb
   . cases hb
   . rename_i hne;rw[jAa hne]
structure BxOk (P:Program) (ops:List Oper) (A:List (List Nat)) (b:Bx):Prop where
 lt:b.i<ops.length/\b.s<ops.length/\b.i≠b.s
 al:(Qd ops b.i).op=.alloc b.T/\(Qd ops b.i).guard=none/\(Qd ops b.i).dst.isSome=true
 z:∃z,(P.info? b.T).bind (·.zero)=some z/\z.cells=b.z
 st:(Qd ops b.s).guard=none/\(Qd ops b.s).dst=none/\∃y,(Qd ops b.s).op=.store b.T (match (Qd ops b.i).dst with|some d=>.tmp d|none=>.const undef) y
 anc:b.i∈A.getD b.s []
 size:(P.info? b.T).map (·.size)=some b.z.size
def Zc(o:Oper):Operand:=match o.op with|.store _ _ y=>y|_=>.const undef
theorem region_bx{P:Program}{id:Nat}{ops:List Oper}{Q:Exit->Act->World->Prop}{a:Act}{w:World}(A:List (List Nat))(E:World)(I:PH)(ro ms:List PH)(bxs:List Bx)
  (D:Nat->Value->PH->Prop)(MT:(Nat->Bool)->(Nat->Value)->PH->List PH->Prop)
  (hm:P.follows .mixedOrders=true)(chk:ogOk ops A a.tmps.size=true)(hbx:bxs.Pairwise λb c=>b.i≠c.i/\b.i≠c.s/\b.s≠c.i/\b.s≠c.s)
  (hS:Sat E I (ro++ms) w)(hMT:MT (λ_=>false) (λ_=>undef) I ms)
  (mono:∀i v I J,PH.le I J->D i v I->D i v J)(monoC:∀b∈bxs,∀cs I J,PH.le I J->b.C cs I->b.C cs J)
  (stab:∀b∈bxs,∀L vals J v ns,MT L vals J ns->MT (upd L b.i true) (upd vals b.i v) J ns/\MT (upd L b.s true) (upd vals b.s v) J ns)
  (okb:∀b∈bxs,BxOk P ops A b)(dal:∀b∈bxs,∀v J,D b.i v J/\D b.s v J)
  (fill:∀b∈bxs,∀(vals:Nat->Value) (J:PH),I.le J->(∀j∈A.getD b.s [],D j (vals j) J) ->
    ∃v,(Qc ops vals a b.s).eval (Zc (Qd ops b.s))=v/\v.cells.size=b.z.size/\v.cells.all (·.oneCell')=true/\b.C v.cells J)
  (plain:∀k,k<ops.length->(∀b∈bxs,k≠b.i/\k≠b.s)->∀(L:Nat->Bool) (vals:Nat->Value) (J:PH) (bs ns:List PH) (w':World),L k=false->(∀j∈A.getD k [],L j=true/\D j (vals j) J)->I.le J->Sat E J (ro++(bs++ns)) w'->MT L vals J ns ->
    Ze P ops (Qd ops k) (λa' w''=>a'.defers=a.defers/\∃(J':PH) (ns':List PH),J.le J'/\Sat E J' (ro++(bs++ns')) w''/\D k (Qk (Qd ops k) a') J'/\MT (upd L k true) (upd vals k (Qk (Qd ops k) a')) J' ns') (Qc ops vals a k) w')
  (fin:∀(vals:Nat->Value) (J:PH) (bs ns:List PH) (w':World),I.le J->(∀j,j<ops.length->D j (vals j) J)->Sat E J (ro++(bs++ns)) w'->Bxs (λ_=>true) vals J bxs bs->(∃L,(∀j,j<ops.length->L j=true)/\MT L vals J ns)->Q .normal (Qc ops vals a ops.length) w') :
  (Code.region id ops.toArray true).wp P Q a w:=by
 refine region_og A E I ro ((bxs.map λ_ _=>none)++ms) D (λL vals J ns=>∃bs ms',Bxs L vals J bxs bs/\ns=bs++ms'/\MT L vals J ms') hm chk ?_ ⟨_,ms,Bxs.start _ _ _,rfl,hMT⟩ mono ?_ ?_
 . have:=(hS.perm (ns:=ms++ro) jIb).empties bxs
   refine this.perm ?_;rw[<- jE];exact jIb
 . intro i hi L vals J ns w' hLi hdn hanc hJ hs ⟨bs,ms',hB,hns,hMT'⟩
   subst hns;by_cases hbox:∃b∈bxs,i=b.i\/i=b.s
   . obtain⟨b,hb,hib⟩:=hbox
     have ok:=okb b hb;have front:∀(pre post:List PH) (m:PH),(ro++((pre++m::post)++ms')).Perm (m::(ro++(pre++post++ms'))):=λpre post m=>by
      rw[jE,List.cons_append,<- jE,<- jE];refine jU.trans ?_;simp only[jE];exact kOb _
     obtain⟨d,hd⟩:=yF.1 ok.al.2.2;have hdl:∀k,d<(Qc ops vals a k).tmps.size:=λk=>by
      rw[actL_size]
      have:=(og_row chk ok.lt.1).1;unfold ogRow at this;rw[dstAt_eq ok.lt.1,hd] at this;simp only[jI] at this
      simpa using this.2
     rcases hib with rfl|rfl
     . obtain⟨z,hz,hzc⟩:=ok.z
       have hw:Region.wanted (Qd ops b.i) (yielded ops.toArray (Qc ops vals a b.i).tmps)=true:=by simp[Region.wanted,ok.al.2.1]
       unfold Ze;rw[jAb hw];unfold Oper.wp;have hrun:(execOp (Qc ops vals a b.i).eval (Qd ops b.i)).run P w'=.ok (.value (.pointer (some ⟨w'.heap.size,0,none⟩))) (w'.alloc (.cells z.cells b.T)):=by
        unfold execOp;simp only[ok.al.1,Sem.run_bind,run_alloc_S hz,Result.andThen_ok,Sem.run_pure]
       rw[hrun];have hout:=outOf_put (o:=Qd ops b.i) (v:=.pointer (some ⟨w'.heap.size,0,none⟩)) (a:=Qc ops vals a b.i) (λd' hd'=>by rw[hd] at hd';cases hd';exact hdl _) d hd;refine⟨by
        show ((Qc ops vals a b.i).put (Qd ops b.i).dst _).defers=_
        rw[hd];exact Xf _,J,?_⟩
       rw[hout];obtain⟨pre,m,post,rfl,hst,hnew⟩:=hB.at_ hbx hb (.inl rfl) (.pointer (some ⟨w'.heap.size,0,none⟩)) J (λc hc cs h=>h);have hm:m=λ_=>none:=by
        unfold Bx.st at hst;rw[jAa (by rw[hLi];simp)] at hst;exact hst
       subst hm;have h1:=(hs.perm (front _ _ _)).drop.alloc (.cells z.cells b.T);refine⟨(pre++PH.one w'.heap.size (.cells z.cells b.T)::post)++ms',PH.le.refl _,h1.perm (front _ _ _).symm,(dal b hb _ _).1,_,ms',hnew _ ?_,rfl,(stab b hb _ _ _ _ _ hMT').1⟩;unfold Bx.st;have hLs:L b.s=false:=by
        cases hb:L b.s with
        | false=>rfl
        | true=>rw[hdn b.s ok.lt.2.1 hb b.i ok.anc] at hLi;cases hLi
       rw[Qq,jAb rfl];refine⟨_,z.cells,Qq _ _ _,rfl,by rw[hzc],?_⟩;rw[Qw _ _ (Ne.symm ok.lt.2.2),hLs]
       simpa using hzc
     . have hia:=hanc b.i ok.anc
       obtain⟨v,hv,hvs,hv1,hvC⟩:=fill b hb vals J hJ λj hj=>(hanc j hj).2
       obtain⟨y,hy⟩:=ok.st.2.2;obtain⟨pre,m,post,rfl,hst,hnew⟩:=hB.at_ hbx hb (.inr rfl) undef J (λc hc cs h=>h);unfold Bx.st at hst;rw[jAb hia.1] at hst;obtain⟨X,cs,e1,rfl,e3,_⟩:=hst;have h0:=hs.perm (front _ _ _);have hw:Region.wanted (Qd ops b.s) (yielded ops.toArray (Qc ops vals a b.s).tmps)=true:=by simp[Region.wanted,ok.st.1]
       have hbi:b.i<b.s:=og_lt chk b.s ok.lt.2.1 b.i ok.anc;have hx:(Qc ops vals a b.s).eval (.tmp d)=.pointer (some ⟨X,0,none⟩):=by
        have hdi:Qi ops b.i=some d:=by rw[dstAt_eq ok.lt.1,hd]
        have:=actL_hit (ops:=ops) (L:=λ_=>true) (vals:=vals) (a:=a) d b.i (by have:=hdl 0;exact this) hdi rfl (λk hne=>og_unique chk hne hdi) b.s hbi;show (Qc ops vals a b.s).tmps.getD d undef=_
        rw[zD,this,e1];rfl
       unfold Ze;rw[jAb hw];unfold Oper.wp;have hval:(Qc ops vals a b.s).eval y=v:=by
        rw[<- hv];unfold Zc;rw[hy]
       have hrun:(execOp (Qc ops vals a b.s).eval (Qd ops b.s)).run P w'=.ok .skip (w'.setRow X v.cells):=by
        unfold execOp;rw[hd] at hy;simp only[hy,hx,hval,Instr.storeAt,Instr.sureAddr,Sem.run_bind,Sem.run_pure,Result.andThen_ok];rw[run_storeVar_S (h0.own _ (.head _) X _ (PH.one_self _ _)) (by rw[ok.size,hvs]) (by rw[e3,hvs]) hv1];rfl
       rw[hrun];have hout:Qk (Qd ops b.s) ((Qc ops vals a b.s).put (Qd ops b.s).dst undef)=undef:=by
        unfold Qk;rw[ok.st.2.1]
       refine⟨by
        show ((Qc ops vals a b.s).put (Qd ops b.s).dst _).defers=_
        rw[ok.st.2.1];exact Xf _,J,?_⟩
       rw[hout];refine⟨(pre++PH.one X (.cells v.cells b.T)::post)++ms',PH.le.refl _,(setRow_step h0).perm (front _ _ _).symm,(dal b hb _ _).2,_,ms',hnew _ ?_,rfl,(stab b hb _ _ _ _ _ hMT').2⟩;unfold Bx.st;rw[Qw _ _ ok.lt.2.2,jAb hia.1];refine⟨X,v.cells,by rw[Qw _ _ ok.lt.2.2];exact e1,rfl,hvs,?_⟩;rw[Qq,jAb rfl];exact hvC
   . have hne:∀b∈bxs,i≠b.i/\i≠b.s:=λb hb=>⟨λe=>hbox ⟨b,hb,.inl e⟩,λe=>hbox ⟨b,hb,.inr e⟩⟩
     refine Xg (plain i hi hne L vals J bs ms' w' hLi hanc hJ hs hMT') λa' w'' hpost=>?_
     obtain⟨h1,J',ns',h2,h3,h4,h5⟩:=hpost;exact⟨h1,J',bs++ns',h2,h3,h4,bs,ns',hB.more hne _ J' λc hc cs=>monoC c hc cs J J' h2,rfl,h5⟩
 . intro vals J ns w' hJ hD hs ⟨L,hL,bs,ms',hB,hns,hMT'⟩
   subst hns;exact fin vals J bs ms' w' hJ hD hs (hB.all λb hb=>⟨hL _ (okb b hb).lt.1,hL _ (okb b hb).lt.2.1⟩) ⟨L,hL,hMT'⟩
end
section
open Go.RowKit
def Given(p:Nat->Prop):List Nat->Prop
 | []=>True
 | j::l=>p j/\Given p l
theorem Given.of{p:Nat->Prop}:∀{l:List Nat},(∀j∈l,p j)->Given p l
 | [],_=>trivial
 | _::_,h=>⟨h _ (.head _),Given.of λj hj=>h j (.tail _ hj)⟩
theorem Given.get{p:Nat->Prop}:∀{l:List Nat},Given p l->∀j∈l,p j
 | _::_,h,_,.head _=>h.1
 | _::_,h,_,.tail _ hj=>h.2.get _ hj
def Below_(p:Nat->Prop):Nat->Prop
 | 0=>True
 | n+1=>Below_ p n/\p n
theorem Below_.get{p:Nat->Prop}:∀{n:Nat},Below_ p n->∀k,k<n->p k
 | n+1,h,k,hk=>by
   by_cases e:k=n
   . subst e;exact h.2
   . exact h.1.get k (by omega)
abbrev Fct:=Value->PH->Prop
def Facts(Ds:List Fct)(k:Nat):Fct:=Ds.getD k (λ_ _=>True)
def Lasting(Ds:List Fct):Prop:=∀d∈Ds,∀v I J,PH.le I J->d v I->d v J
theorem Facts.lasting{Ds:List Fct}(h:Lasting Ds)(k:Nat)(v:Value)(I J:PH)(hJ:PH.le I J)(hd:Facts Ds k v I):Facts Ds k v J:=by
 unfold Facts at hd ⊢;rw[yD] at hd ⊢;cases hk:Ds[k]? with
 | none=>trivial
 | some d =>
   rw[hk] at hd;exact h d (jCb hk) v I J hJ hd
theorem Lasting.nil:Lasting []:=λ_ h=>by cases h
theorem Lasting.cons{d:Fct}{Ds:List Fct}(h:∀v I J,PH.le I J->d v I->d v J)(hs:Lasting Ds):Lasting (d::Ds):=λe he=>by
 rcases jBa.1 he with rfl|he
 . exact h
 . exact hs e he
theorem region_fn{P:Program}{id:Nat}{ops:List Oper}{Q:Exit->Act->World->Prop}{a:Act}{w:World}(A:List (List Nat))(E:World)(I:PH)(ro ms:List PH)(bxs:List Bx)(Ds:List Fct)
  (hm:P.follows .mixedOrders=true)(chk:ogOk ops A a.tmps.size=true)(hbx:bxs.Pairwise λb c=>b.i≠c.i/\b.i≠c.s/\b.s≠c.i/\b.s≠c.s)
  (hS:Sat E I (ro++ms) w)(lasting:Lasting Ds)(monoC:∀b∈bxs,∀cs I J,PH.le I J->b.C cs I->b.C cs J)
  (okb:∀b∈bxs,BxOk P ops A b)(dal:∀b∈bxs,∀v J,Facts Ds b.i v J/\Facts Ds b.s v J)
  (fill:∀b∈bxs,∀(vals:Nat->Value) (J:PH),I.le J->Given (λj=>Facts Ds j (vals j) J) (A.getD b.s []) ->
    ∃v,(Qc ops vals a b.s).eval (Zc (Qd ops b.s))=v/\v.cells.size=b.z.size/\v.cells.all (·.oneCell')=true/\b.C v.cells J)
  (plain:Below_ (λk=>(bxs.any λb=>b.i==k||b.s==k)=true\/∀(vals:Nat->Value) (J:PH) (bs:List PH) (w':World),Given (λj=>Facts Ds j (vals j) J) (A.getD k [])->I.le J->Sat E J (ro++(bs++ms)) w' ->
    Ze P ops (Qd ops k) (λa' w''=>a'.defers=a.defers/\∃J':PH,J.le J'/\Sat E J' (ro++(bs++ms)) w''/\Facts Ds k (Qk (Qd ops k) a') J') (Qc ops vals a k) w') ops.length)
  (fin:∀(vals:Nat->Value) (J:PH) (bs:List PH) (w':World),I.le J->Below_ (λj=>Facts Ds j (vals j) J) ops.length->Sat E J (ro++(bs++ms)) w'->Bxs (λ_=>true) vals J bxs bs->Q .normal (Qc ops vals a ops.length) w') :
  (Code.region id ops.toArray true).wp P Q a w:=by
 refine region_bx A E I ro ms bxs (Facts Ds) (λ_ _ _ ns=>ns=ms) hm chk hbx hS rfl (λi v I J hJ=>Facts.lasting lasting i v I J hJ) monoC (λ_ _ _ _ _ _ _ h=>⟨h,h⟩) okb dal
  (λb hb vals J hJ h=>fill b hb vals J hJ (Given.of h)) ?_ ?_
 . intro k hk hne L vals J bs ns w' _ hanc hJ hs hns
   subst hns;rcases plain.get k hk with h|h
   . rw[kX] at h
     obtain⟨b,hb,hor⟩:=h;rw[kFa] at hor;rcases hor with h|h
     . exact absurd (by simpa using h) (Ne.symm (hne b hb).1)
     . exact absurd (by simpa using h) (Ne.symm (hne b hb).2)
   . refine Xg (h vals J bs w' (Given.of λj hj=>(hanc j hj).2) hJ hs) λa' w'' hpost=>?_
     obtain⟨h1,J',h2,h3,h4⟩:=hpost;exact⟨h1,J',_,h2,h3,h4,rfl⟩
 . intro vals J bs ns w' hJ hD hs hB ⟨_,_,hns⟩
   subst hns;refine fin vals J bs w' hJ ?_ hs hB
   have:∀n,n<=ops.length->Below_ (λj=>Facts Ds j (vals j) J) n:=λn=>by
    induction n with
    | zero=>exact λ_=>trivial
    | succ n ih=>exact λhn=>⟨ih (by omega),hD n (by omega)⟩
   exact this _ (jBb _)
end
section
open Go.RowKit
@[irreducible] def Ky(P:Program)(T:TypeId):Option Bool:=(P.underlying T).map λd=>match d with|.struct _|.array _ _=>true|_=>false
@[irreducible] def Kg(P:Program)(T:TypeId):Option Nat:=(P.info? T).map (·.size)
@[irreducible] def Xh(P:Program)(T:TypeId):Option Value:=(P.info? T).bind (·.zero)
def PH.at(I:PH)(X off:Nat):Option Value:=match I X with|some (.cells c _ _)=>c[off]?|_=>none
def Cells(I:PH)(X off:Nat)(vs:List Value):Prop:=∀j v,vs[j]?=some v->I.at X (off+j)=some v
theorem PH.at_le{I J:PH}(h:I.le J){X off:Nat}{v:Value}(hc:I.at X off=some v):J.at X off=some v:=by
 unfold PH.at at hc ⊢;cases hI:I X with
 | none=>rw[hI] at hc;cases hc
 | some o=>rw[hI] at hc;rw[h X o hI];exact hc
theorem Cells.le{I J:PH}(h:I.le J){X off:Nat}{vs:List Value}(hc:Cells I X off vs):Cells J X off vs:=λj v hj=>PH.at_le h (hc j v hj)
theorem Cells.one(X:Nat)(c:Array Value)(T:TypeId)(z:Nat×Nat):Cells (PH.one X (.cells c T z)) X 0 c.toList:=λj v hj=>by
 simp only[PH.at,PH.one_self,jLb]
 simpa using hj
theorem Cells.part{I:PH}{X off:Nat}{vs:List Value}(h:Cells I X off vs)(i n:Nat):Cells I X (off+i) ((vs.drop i).take n):=λj v hj=>by
 rw[kYb];refine h (i+j) v ?_;rw[kH] at hj;split at hj
 . rwa [kHa] at hj
 . cases hj
theorem Ql{I:PH}{w:World}(h:I.le (Qa w)){X off:Nat}{v:Value}(hc:I.at X off=some v):w.cell? ⟨X,off,none⟩=some v:=by
 have:=PH.at_le h hc;unfold PH.at Qa at this;unfold World.cell?;cases hw:w.heap[X]? with
 | none=>rw[hw] at this;cases this
 | some o=>rw[hw] at this;cases o <;> first|(cases this)|(simpa using this)
theorem Sat.ile{E w:World}{I:PH}{ms:List PH}(h:Sat E I ms w):I.le (Qa w):=h.imm
theorem Sat.mle{E w:World}{I:PH}{ms:List PH}(h:Sat E I ms w){k:Nat}{m:PH}(hm:ms[k]?=some m):m.le (Qa w):=h.own m (jCb hm)
section
variable{P:Program} {w:World}
theorem run_load1{p:PH}(hp:p.le (Qa w)){T:TypeId}(hT:Ky P T=some false){X off:Nat}{v:Value}(hc:p.at X off=some v):(Instr.loadAt T (.pointer (some ⟨X,off,none⟩))).run P w=.ok v w:=by
 unfold Ky at hT;cases hd:P.underlying T with
 | none=>rw[hd] at hT;cases hT
 | some d =>
   rw[hd] at hT;have hw:=Ql hp hc;cases d <;> first
    | (simp at hT;done)
    | (simp[Instr.loadAt,Instr.sureAddr,loadVar,isAgg,run_underlying hd,load,Sem.run,hw])
theorem run_loadN{p:PH}(hp:p.le (Qa w)){T:TypeId}(hT:Ky P T=some true){X off:Nat}{vs:List Value}(hc:Cells p X off vs)(hs:Kg P T=some vs.length):(Instr.loadAt T (.pointer (some ⟨X,off,none⟩))).run P w=.ok (.agg vs.toArray) w:=by
 unfold Ky at hT;unfold Kg at hs;have hl:=run_loadCells_list (P:=P) w ⟨X,off,none⟩ vs (λj v hj=>by
  have hadd:(⟨X,off,none⟩:Addr).add j=⟨X,off+j,none⟩:=by unfold Addr.add;split <;> simp_all
  rw[hadd];exact Ql hp (hc j v hj))
 cases hd:P.underlying T with
 | none=>rw[hd] at hT;cases hT
 | some d =>
   rw[hd] at hT;cases hi:P.info? T with
   | none=>rw[hi] at hs;cases hs
   | some i =>
     rw[hi] at hs;have hsz:i.size=vs.length:=by simpa using hs
     cases d <;> first
      | (simp at hT;done)
      | (simp[Instr.loadAt,Instr.sureAddr,loadVar,isAgg,run_underlying hd,sizeOf,typeInfo,hi,hsz,hl])
theorem run_box_S{T:TypeId}{v:Value}:(Instr.box T v).run P w=.ok (.pointer (some ⟨w.heap.size,0,none⟩)) (w.alloc (.cells v.cells T)):=by
 simp[Instr.box,newVar,newRow]
theorem run_store1{X off:Nat}{c:Array Value}{T' T:TypeId}{v:Value}(hg:w.heap[X]?=some (.cells c T' (0,0)))(hs:Kg P T=some 1)(hv:v.cells = #[v])(h1:v.oneCell'=true)(ho:off<c.size) :
  (Instr.storeAt T (.pointer (some ⟨X,off,none⟩)) v).run P w=.ok () (w.setCell ⟨X,off,none⟩ v):=by
 unfold Kg at hs;cases hi:P.info? T with
 | none=>rw[hi] at hs;cases hs
 | some i =>
   rw[hi] at hs;have hsz:i.size=1:=by simpa using hs
   have hc:w.cell? ⟨X,off,none⟩=some c[off]:=by rw[cell_of_row w X off c T' (0,0) hg];simp[ho]
   have hf:w.frozen? ⟨X,off,none⟩=false:=by simp[World.frozen?,hg]
   have ha:(⟨X,off,none⟩:Addr).add 0=⟨X,off,none⟩:=rfl;simp[Instr.storeAt,Instr.sureAddr,storeVar,sizeOf,typeInfo,hi,hsz,hv,storeCells,run_store P w _ v .plain h1,hc,hf,ha]
end
section
variable{P:Program} {o:Oper} {a:Act} {w E:World} {K:Act->World->Prop} {Q:Exit->Act->World->Prop} {I:PH} {ms:List PH}
theorem wp_ld1{p:PH}(hp:p.le (Qa w)){T:TypeId}{x:Operand}(ho:o.op=.load T x)(hT:Ky P T=some false){X off:Nat}{v:Value}(hx:a.eval x=.pointer (some ⟨X,off,none⟩))(hc:p.at X off=some v)
  (h:K (a.put o.dst v) w):o.wp P a w K Q:=by
 unfold Oper.wp execOp;simp only[ho,hx,Sem.run_bind,run_load1 hp hT hc,Result.andThen_ok,Sem.run_pure];exact h
theorem wp_ldN{p:PH}(hp:p.le (Qa w)){T:TypeId}{x:Operand}(ho:o.op=.load T x)(hT:Ky P T=some true){X off:Nat}{vs:List Value}(hx:a.eval x=.pointer (some ⟨X,off,none⟩))(hc:Cells p X off vs)(hs:Kg P T=some vs.length)
  (h:K (a.put o.dst (.agg vs.toArray)) w):o.wp P a w K Q:=by
 unfold Oper.wp execOp;simp only[ho,hx,Sem.run_bind,run_loadN hp hT hc hs,Result.andThen_ok,Sem.run_pure];exact h
theorem Zw{T:TypeId}{z:Value}(h:Xh P T=some z):(P.info? T).bind (·.zero)=some z:=by unfold Xh at h;exact h
theorem Zx{T:TypeId}{n:Nat}(h:Kg P T=some n):(P.info? T).map (·.size)=some n:=by unfold Kg at h;exact h
theorem wp_al(hS:Sat E I ms w){T:TypeId}(ho:o.op=.alloc T){z:Value}(hz:Xh P T=some z)
  (h:∀X w',Sat E I (PH.one X (.cells z.cells T)::ms) w'->K (a.put o.dst (.pointer (some ⟨X,0,none⟩))) w'):o.wp P a w K Q:=by
 unfold Oper.wp execOp;simp only[ho,Sem.run_bind,run_alloc_S (Zw hz),Result.andThen_ok,Sem.run_pure];exact h _ _ (hS.alloc _)
theorem wp_bx(hS:Sat E I ms w){T:TypeId}{x:Operand}(ho:o.op=.box T x){v:Value}(hx:a.eval x=v)
  (h:∀X w',Sat E I (PH.one X (.cells v.cells T)::ms) w'->K (a.put o.dst (.pointer (some ⟨X,0,none⟩))) w'):o.wp P a w K Q:=by
 unfold Oper.wp execOp;simp only[ho,hx,Sem.run_bind,run_box_S,Result.andThen_ok,Sem.run_pure];exact h _ _ (hS.alloc _)
theorem Kd(k:Nat){m:PH}(hm:ms[k]?=some m):ms.Perm (m::ms.eraseIdx k):=by
 induction ms generalizing k with
 | nil=>cases hm
 | cons n l ih =>
   cases k with
   | zero=>simp at hm;subst hm;exact kOb _
   | succ k =>
     simp at hm
     exact ((ih k hm).cons n).trans (List.Perm.swap m n _)
theorem Kl(k:Nat){m m':PH}(hm:ms[k]?=some m):(m'::ms.eraseIdx k).Perm (ms.set k m'):=by
 induction ms generalizing k with
 | nil=>cases hm
 | cons n l ih =>
   cases k with
   | zero=>exact kOb _
   | succ k =>
     simp at hm
     exact (List.Perm.swap n m' _).trans ((ih k hm).cons n)
theorem wp_stN(hS:Sat E I ms w)(k:Nat){T:TypeId}{x y:Operand}(ho:o.op=.store T x y){X:Nat}{c:Array Value}{T':TypeId}{v:Value}(hx:a.eval x=.pointer (some ⟨X,0,none⟩))(hy:a.eval y=v)
  (hm:ms[k]?=some (PH.one X (.cells c T' (0,0))))(hs:Kg P T=some v.cells.size)(hc:c.size=v.cells.size)(h1:v.cells.all (·.oneCell')=true)
  (h:∀w',Sat E I (ms.set k (PH.one X (.cells v.cells T'))) w'->K (a.put o.dst undef) w'):o.wp P a w K Q:=by
 unfold Oper.wp execOp;have h0:=hS.perm (Kd k hm);simp only[ho,hx,hy,Instr.storeAt,Instr.sureAddr,Sem.run_bind,Sem.run_pure,Result.andThen_ok];rw[run_storeVar_S (h0.own _ (.head _) X _ (PH.one_self _ _)) (Zx hs) hc h1];exact h _ ((setRow_step h0).perm (Kl k hm))
theorem wp_st1(hS:Sat E I ms w)(k:Nat){T:TypeId}{x y:Operand}(ho:o.op=.store T x y){X off:Nat}{c:Array Value}{T':TypeId}{v:Value}(hx:a.eval x=.pointer (some ⟨X,off,none⟩))(hy:a.eval y=v)
  (hm:ms[k]?=some (PH.one X (.cells c T' (0,0))))(hs:Kg P T=some 1)(hv:v.cells = #[v])(h1:v.oneCell'=true)(hlt:off<c.size)
  (h:∀w',Sat E I (ms.set k (PH.one X (.cells (c.setIfInBounds off v) T'))) w'->K (a.put o.dst undef) w'):o.wp P a w K Q:=by
 unfold Oper.wp execOp;have h0:=hS.perm (Kd k hm);simp only[ho,hx,hy,Sem.run_bind,Sem.run_pure];rw[run_store1 (h0.own _ (.head _) X _ (PH.one_self _ _)) hs hv h1 hlt];exact h _ ((h0.set_ off v).perm (Kl k hm))
end
section
variable{P:Program} {o:Oper} {a:Act} {w E:World} {Q:Exit->Act->World->Prop} {I:PH} {ms:List PH} {ops:Array Oper} {rest:List Oper}
theorem ld1(k:Nat)(hS:Sat E I ms w)(hg:o.guard=none){T:TypeId}{x:Operand}(ho:o.op=.load T x)(hT:Ky P T=some false){X off:Nat}{c:Array Value}{T':TypeId}{z:Nat×Nat}{v:Value}
  (hx:a.eval x=.pointer (some ⟨X,off,none⟩))(hm:ms[k]?=some (PH.one X (.cells c T' z)))(hv:c.toList[off]?=some v)(h:wpList P ops Q rest (a.put o.dst v) w):wpList P ops Q (o::rest) a w :=
 wpList_plain hg λ_ hK=>wp_ld1 (hS.mle hm) ho hT hx (by simp only[PH.at,PH.one_self];rw[<- hv];simp) (hK _ _ h)
theorem ldN(k:Nat)(hS:Sat E I ms w)(hg:o.guard=none){T:TypeId}{x:Operand}(ho:o.op=.load T x)(hT:Ky P T=some true){X:Nat}{c:Array Value}{T':TypeId}{z:Nat×Nat}
  (hx:a.eval x=.pointer (some ⟨X,0,none⟩))(hm:ms[k]?=some (PH.one X (.cells c T' z)))(hs:Kg P T=some c.size)(h:wpList P ops Q rest (a.put o.dst (.agg c)) w):wpList P ops Q (o::rest) a w :=
 wpList_plain hg λ_ hK=>wp_ldN (hS.mle hm) ho hT hx (Cells.one X c T' z) (by rw[hs];simp) (hK _ _ h)
theorem ldI1(hS:Sat E I ms w)(hg:o.guard=none){T:TypeId}{x:Operand}(ho:o.op=.load T x)(hT:Ky P T=some false){X off:Nat}{v:Value}
  (hx:a.eval x=.pointer (some ⟨X,off,none⟩))(hc:I.at X off=some v)(h:wpList P ops Q rest (a.put o.dst v) w):wpList P ops Q (o::rest) a w :=
 wpList_plain hg λ_ hK=>wp_ld1 hS.ile ho hT hx hc (hK _ _ h)
theorem ldIN(hS:Sat E I ms w)(hg:o.guard=none){T:TypeId}{x:Operand}(ho:o.op=.load T x)(hT:Ky P T=some true){X off:Nat}{vs:List Value}
  (hx:a.eval x=.pointer (some ⟨X,off,none⟩))(hc:Cells I X off vs)(hs:Kg P T=some vs.length)(h:wpList P ops Q rest (a.put o.dst (.agg vs.toArray)) w):wpList P ops Q (o::rest) a w :=
 wpList_plain hg λ_ hK=>wp_ldN hS.ile ho hT hx hc hs (hK _ _ h)
theorem al(hS:Sat E I ms w)(hg:o.guard=none){T:TypeId}(ho:o.op=.alloc T){z:Value}(hz:Xh P T=some z)
  (h:∀X w',Sat E I (PH.one X (.cells z.cells T)::ms) w'->wpList P ops Q rest (a.put o.dst (.pointer (some ⟨X,0,none⟩))) w'):wpList P ops Q (o::rest) a w :=
 wpList_plain hg λ_ hK=>wp_al hS ho hz λX w' hS'=>hK _ _ (h X w' hS')
theorem bx(hS:Sat E I ms w)(hg:o.guard=none){T:TypeId}{x:Operand}(ho:o.op=.box T x){v:Value}(hx:a.eval x=v)
  (h:∀X w',Sat E I (PH.one X (.cells v.cells T)::ms) w'->wpList P ops Q rest (a.put o.dst (.pointer (some ⟨X,0,none⟩))) w'):wpList P ops Q (o::rest) a w :=
 wpList_plain hg λ_ hK=>wp_bx hS ho hx λX w' hS'=>hK _ _ (h X w' hS')
theorem stN(k:Nat)(hS:Sat E I ms w)(hg:o.guard=none){T:TypeId}{x y:Operand}(ho:o.op=.store T x y){X:Nat}{c:Array Value}{T':TypeId}{v:Value}(hx:a.eval x=.pointer (some ⟨X,0,none⟩))(hy:a.eval y=v)
  (hm:ms[k]?=some (PH.one X (.cells c T' (0,0))))(hs:Kg P T=some v.cells.size)(hc:c.size=v.cells.size)(h1:v.cells.toList.all (·.oneCell')=true)
  (h:∀w',Sat E I (ms.set k (PH.one X (.cells v.cells T'))) w'->wpList P ops Q rest (a.put o.dst undef) w'):wpList P ops Q (o::rest) a w :=
 wpList_plain hg λ_ hK=>wp_stN hS k ho hx hy hm hs hc (by rw[<- h1];simp) λw' hS'=>hK _ _ (h w' hS')
theorem st1(k:Nat)(hS:Sat E I ms w)(hg:o.guard=none){T:TypeId}{x y:Operand}(ho:o.op=.store T x y){X off:Nat}{c:Array Value}{T':TypeId}{v:Value}(hx:a.eval x=.pointer (some ⟨X,off,none⟩))(hy:a.eval y=v)
  (hm:ms[k]?=some (PH.one X (.cells c T' (0,0))))(hs:Kg P T=some 1)(hv:v.cells = #[v])(h1:v.oneCell'=true)(hlt:off<c.size)
  (h:∀w',Sat E I (ms.set k (PH.one X (.cells (c.setIfInBounds off v) T'))) w'->wpList P ops Q rest (a.put o.dst undef) w'):wpList P ops Q (o::rest) a w :=
 wpList_plain hg λ_ hK=>wp_st1 hS k ho hx hy hm hs hv h1 hlt λw' hS'=>hK _ _ (h w' hS')
end
theorem Qu{P:Program}{o:Oper}{a:Act}{w:World}{Q:Exit->Act->World->Prop}{ops:Array Oper}{rest:List Oper}(h:wpList P ops Q (o::rest) a w):wpList P ops Q (o::rest) a w:=h
theorem Qe{P:Program}{a:Act}{w:World}{Q:Exit->Act->World->Prop}{ops:Array Oper}{rest:List Oper}{dst:Option Tmp}{type:TypeId}{pos:String}{after:Array Edge}{T:TypeId}{x:Operand}(h:wpList P ops Q (⟨dst,.load T x,type,pos,after,none⟩::rest) a w):wpList P ops Q (⟨dst,.load T x,type,pos,after,none⟩::rest) a w:=h
theorem Xa{P:Program}{a:Act}{w:World}{Q:Exit->Act->World->Prop}{ops:Array Oper}{rest:List Oper}{dst:Option Tmp}{type:TypeId}{pos:String}{after:Array Edge}{T:TypeId}{x y:Operand}(h:wpList P ops Q (⟨dst,.store T x y,type,pos,after,none⟩::rest) a w):wpList P ops Q (⟨dst,.store T x y,type,pos,after,none⟩::rest) a w:=h
theorem isBox{P:Program}{a:Act}{w:World}{Q:Exit->Act->World->Prop}{ops:Array Oper}{rest:List Oper}{dst:Option Tmp}{type:TypeId}{pos:String}{after:Array Edge}{T:TypeId}{x:Operand}(h:wpList P ops Q (⟨dst,.box T x,type,pos,after,none⟩::rest) a w):wpList P ops Q (⟨dst,.box T x,type,pos,after,none⟩::rest) a w:=h
theorem isAlloc{P:Program}{a:Act}{w:World}{Q:Exit->Act->World->Prop}{ops:Array Oper}{rest:List Oper}{dst:Option Tmp}{type:TypeId}{pos:String}{after:Array Edge}{T:TypeId}(h:wpList P ops Q (⟨dst,.alloc T,type,pos,after,none⟩::rest) a w):wpList P ops Q (⟨dst,.alloc T,type,pos,after,none⟩::rest) a w:=h
theorem Zs{P:Program}{a:Act}{w:World}{Q:Exit->Act->World->Prop}{ops:Array Oper}{rest:List Oper}{dst:Option Tmp}{type:TypeId}{pos:String}{after:Array Edge}{op:Op}{g:Nat×Bool}(h:wpList P ops Q (⟨dst,op,type,pos,after,some g⟩::rest) a w):wpList P ops Q (⟨dst,op,type,pos,after,some g⟩::rest) a w:=h
section
variable{P:Program} {o:Oper} {a:Act} {w E:World} {Q:Exit->Act->World->Prop} {I:PH} {ms:List PH} {ops:Array Oper} {rest:List Oper}
def Src(I:PH)(ms:List PH)(p:PH):Prop:=p.le I\/p∈ms
theorem Src.le{I J:PH}{ms:List PH}{p:PH}(h:Src I ms p)(hJ:I.le J):Src J ms p:=h.imp (λh=>h.trans hJ) id
theorem Src.of{I:PH}{ms ns:List PH}{p:PH}(h:Src I ms p)(hn:∀m∈ms,m∈ns):Src I ns p:=h.imp id (hn p)
theorem Src.cons{I:PH}{ms:List PH}{p:PH}(h:Src I ms p)(m:PH):Src I (m::ms) p:=h.imp id (λh=>.tail _ h)
theorem Sat.src(hS:Sat E I ms w){p:PH}(h:Src I ms p):p.le (Qa w):=by
 rcases h with h|h
 . exact h.trans hS.imm
 . exact hS.own p h
theorem Xx{p:PH}(hp:Src I ms p)(hS:Sat E I ms w)(hg:o.guard=none){T:TypeId}{x:Operand}(ho:o.op=.load T x)(hT:Ky P T=some false){X off:Nat}{v:Value}
  (hx:a.eval x=.pointer (some ⟨X,off,none⟩))(hc:p.at X off=some v)(h:wpList P ops Q rest (a.put o.dst v) w):wpList P ops Q (o::rest) a w :=
 wpList_plain hg λ_ hK=>wp_ld1 (hS.src hp) ho hT hx hc (hK _ _ h)
end
theorem Qy{P:Program}{a:Act}{w:World}{Q:Exit->Act->World->Prop}{ops:Array Oper}{rest:List Oper}{dst:Option Tmp}{op:Op}{type:TypeId}{pos:String}{after:Array Edge}{g:Nat×Bool}
  (hw:Region.wanted ⟨dst,op,type,pos,after,some g⟩ (yielded ops a.tmps)=true)(h:wpList P ops Q (⟨dst,op,type,pos,after,none⟩::rest) a w):wpList P ops Q (⟨dst,op,type,pos,after,some g⟩::rest) a w:=by
 unfold wpList at h ⊢;rw[jAb hw];rw[jAb (by rfl)] at h;exact h
theorem guarded_no{P:Program}{a:Act}{w:World}{Q:Exit->Act->World->Prop}{ops:Array Oper}{rest:List Oper}{dst:Option Tmp}{op:Op}{type:TypeId}{pos:String}{after:Array Edge}{g:Nat×Bool}
  (hw:Region.wanted ⟨dst,op,type,pos,after,some g⟩ (yielded ops a.tmps)=false)(h:wpList P ops Q rest (a.put dst undef) w):wpList P ops Q (⟨dst,op,type,pos,after,some g⟩::rest) a w :=
 wpList_skip hw h
theorem Ki{P:Program}{a:Act}{w:World}{Q:Exit->Act->World->Prop}{ops:Array Oper}{rest:List Oper}{dst:Option Tmp}{op:Op}{type:TypeId}{pos:String}{after:Array Edge}{j:Nat}{want:Bool}
  {b:Bool}(hy:yielded ops a.tmps j=some b)(h1:b=want->wpList P ops Q (⟨dst,op,type,pos,after,none⟩::rest) a w)(h2:b=!want->wpList P ops Q rest (a.put dst undef) w):wpList P ops Q (⟨dst,op,type,pos,after,some (j,want)⟩::rest) a w:=by
 by_cases hb:b=want
 . refine Qy ?_ (h1 hb)
   simp[Region.wanted,hy,hb]
 . have hb':b=!want:=by cases b <;> cases want <;> simp_all
   refine wpList_skip ?_ (h2 hb');simp[Region.wanted,hy,hb']
def Held_(p:Prop):Prop:=p
theorem Held_.in_{p:Prop}(h:Held_ p):p:=h
theorem Held_.out{p:Prop}(h:p):Held_ p:=h
end
section
open Go.RowKit
section
variable{P:Program} {dst:Option Tmp} {type:TypeId} {pos:String} {after:Array Edge} {g:Option (Nat×Bool)} {a:Act} {w E:World} {K:Act->World->Prop} {Q:Exit->Act->World->Prop} {I:PH} {ms:List PH} {T:TypeId} {x:Operand}
theorem atLoad(h:Oper.wp P ⟨dst,.load T x,type,pos,after,g⟩ a w K Q):Oper.wp P ⟨dst,.load T x,type,pos,after,g⟩ a w K Q:=h
theorem wp_ldo1(hS:Sat E I ms w){X off:Nat}{c:Array Value}{T':TypeId}{z:Nat×Nat}{v:Value}(hm:PH.one X (.cells c T' z)∈ms)(hT:Ky P T=some false)(hx:a.eval x=.pointer (some ⟨X,off,none⟩))(hv:c.toList[off]?=some v)
  (h:K (a.put dst v) w):Oper.wp P ⟨dst,.load T x,type,pos,after,g⟩ a w K Q :=
 wp_ld1 (hS.own _ hm) rfl hT hx (by simp only[PH.at,PH.one_self];rw[<- hv];simp) h
theorem wp_ldi1{I0:PH}(hS:Sat E I ms w)(hJ:I0.le I){X off:Nat}{v:Value}(hT:Ky P T=some false)(hx:a.eval x=.pointer (some ⟨X,off,none⟩))(hc:I0.at X off=some v)
 (h:K (a.put dst v) w):Oper.wp P ⟨dst,.load T x,type,pos,after,g⟩ a w K Q:=wp_ld1 hS.imm rfl hT hx (PH.at_le hJ hc) h
theorem wp_ldiN{I0:PH}(hS:Sat E I ms w)(hJ:I0.le I){X off:Nat}{vs:List Value}(hT:Ky P T=some true)(hx:a.eval x=.pointer (some ⟨X,off,none⟩))(hc:Cells I0 X off vs)(hs:Kg P T=some vs.length)
 (h:K (a.put dst (.agg vs.toArray)) w):Oper.wp P ⟨dst,.load T x,type,pos,after,g⟩ a w K Q:=wp_ldN hS.imm rfl hT hx (hc.le hJ) hs h
end
theorem isBoxD{P:Program}{a:Act}{w:World}{Q:Exit->Act->World->Prop}{ops:Array Oper}{rest:List Oper}{type:TypeId}{pos:String}{after:Array Edge}(d:Nat){T:TypeId}{x:Operand}(h:wpList P ops Q (⟨some d,.box T x,type,pos,after,none⟩::rest) a w):wpList P ops Q (⟨some d,.box T x,type,pos,after,none⟩::rest) a w:=h
theorem Xi{P:Program}{a:Act}{w:World}{Q:Exit->Act->World->Prop}{ops:Array Oper}{rest:List Oper}{type:TypeId}{pos:String}{after:Array Edge}(d:Nat){T:TypeId}(h:wpList P ops Q (⟨some d,.alloc T,type,pos,after,none⟩::rest) a w):wpList P ops Q (⟨some d,.alloc T,type,pos,after,none⟩::rest) a w:=h
theorem Kz{P:Program}{a:Act}{w:World}{Q:Exit->Act->World->Prop}{ops:Array Oper}{rest:List Oper}{dst:Option Tmp}{type:TypeId}{pos:String}{after:Array Edge}{T:TypeId}{n:Nat}{parts:Array (Nat×Operand)}
 (h:wpList P ops Q (⟨dst,.buildSlice T n parts,type,pos,after,none⟩::rest) a w):wpList P ops Q (⟨dst,.buildSlice T n parts,type,pos,after,none⟩::rest) a w:=h
theorem bsl{P:Program}{a:Act}{w E:World}{Q:Exit->Act->World->Prop}{I:PH}{ms:List PH}{ops:Array Oper}{rest:List Oper}{dst:Option Tmp}{type:TypeId}{pos:String}{after:Array Edge}{T:TypeId}{n:Nat}{parts:Array (Nat×Operand)}
  (hS:Sat E I ms w){cs:Array Value}{e:TypeId}(hr:∀w:World,(Instr.buildSlice T n (parts.map λ(i,x)=>(i,a.eval x))).run P w=.ok (.slice (some ⟨w.heap.size,0,none⟩) n n) (w.alloc (.cells cs e)))
  (h:∀X w',Sat E I (PH.one X (.cells cs e)::ms) w'->wpList P ops Q rest (a.put dst (.slice (some ⟨X,0,none⟩) n n)) w'):wpList P ops Q (⟨dst,.buildSlice T n parts,type,pos,after,none⟩::rest) a w :=
 wpList_plain rfl λ_ hK=>by
  unfold Oper.wp execOp;simp only[Sem.run_bind,hr,Result.andThen_ok,Sem.run_pure];exact hK _ _ (h _ _ (hS.alloc _))
theorem Sat.sub{E w:World}{I:PH}{ms ns:List PH}(h:Sat E I ms w)(hs:ns.Sublist ms):Sat E I ns w :=
 ⟨h.os,h.tape,h.output,h.imm,λn hn=>h.own n (hs.subset hn),λn hn=>h.sep n (hs.subset hn),h.dis.sublist hs,h.size⟩
end
section
open Go.RowKit
theorem Oper.wpIn_of_wp{F:Fence}{n:Nat}{P:Program}{o:Oper}{a:Act}{w:World}{K:Act->World->Prop}{Q:Exit->Act->World->Prop}(hF:∀f,F.fn f)(hd:F.depth=none)
  (hcall:∀f args w' R,Calls P f args w' R->CallsIn F (n-1) P f args w' R)(hrow:∀r args w' R,Rows P r args w' R->RowsIn F (n-1) P r args w' R)(hs:isSelect o.op=false)(h:o.wp P a w K calm):o.wpIn F n P a w K Q:=by
 refine⟨λf _=>hF f,?_⟩;have hsem:Oper.semAt F.round a.eval o=execOp a.eval o:=by
  unfold Oper.semAt;split
  . rename_i l c hr ho
    rw[ho] at hs;cases hs
  . rfl
 rw[hsem];unfold Oper.wp at h;generalize (execOp a.eval o).run P w=r at h ⊢;cases r with
 | ok m w' =>
   cases m <;> simp only[Oper.upon,Oper.uponIn,calm] at h ⊢
   case value=>exact h
   case skip=>exact h
   case defer=>exact h
   case enter f args =>
    refine⟨λh=>(by rw[hd] at h;cases h),hcall _ _ _ _ (yI h λe w'' he=>?_)⟩;cases e with
    | returned v=>exact he
    | panicked c=>exact he.elim
    | outgrown=>obtain⟨_,_,hf⟩:=he;exact hf.elim
   case row r args=>exact⟨λh=>(by rw[hd] at h;cases h),hrow _ _ _ _ h⟩
 | halt x w'=>cases x <;> simp only[Oper.upon,calm] at h ⊢
end
section
open Go.RowKit
def calmZ(Z:List PanicEntry->World->Prop):Exit->Act->World->Prop:=λe _ w=>match e with|.panic c=>Z c w|_=>False
def wpStepZ(Z:List PanicEntry->World->Prop)(P:Program)(ops:List Oper)(o:Oper)(K:Act->World->Prop)(a:Act)(w:World):Prop :=
 if Region.wanted o (yielded ops.toArray a.tmps) then o.wp P a w K (calmZ Z) else K (a.put o.dst undef) w
theorem Kj{Z:List PanicEntry->World->Prop}{P:Program}{ops:List Oper}{o:Oper}{K:Act->World->Prop}{a:Act}{w:World}(h:∀K':Act->World->Prop,(∀a w,K a w->K' a w)->if Region.wanted o (yielded ops.toArray a.tmps) then o.wp P a w K' (calmZ Z) else K' (a.put o.dst undef) w):wpStepZ Z P ops o K a w :=
 h K λ_ _ hk=>hk
theorem wpStepZ_carry{P:Program}{Z:List PanicEntry->World->Prop}{ops:List Oper}{o:Oper}{a b:Act}{w:World}{R:Value->World->Prop}{K:Act->World->Prop}{Q:Exit->Act->World->Prop}
  (hs:isSelect o.op=false)(hlook:∀t∈o.looksAt ops.toArray,a.tmps.getD t undef=b.tmps.getD t undef/\a.tmps[t]?=b.tmps[t]?)
  (hin:∀d,o.dst=some d->d<a.tmps.size)
  (h:wpStepZ Z P ops o (λa' w'=>a'.defers=a.defers/\R (Qk o a') w') a w)(hK:∀v w',R (match o.dst with|some _=>v|none=>undef) w'->K (b.put o.dst v) w')(hZ:∀c w',Z c w'->Q (.panic c) b w') :
  (if Region.wanted o (yielded ops.toArray b.tmps) then o.wp P b w K Q\/(o.asks P b w/\LetsOut Q) else K (b.put o.dst undef) w):=by
 have hrun:execOp b.eval o=execOp a.eval o:=execOp_congr o (λcs bl he=>by rw[he] at hs;cases hs) λx hx=>by
  cases x with
  | tmp t =>
    refine ((hlook t ?_).1).symm;exact jRa _ (List.mem_filterMap.2 ⟨.tmp t,by simpa using hx,rfl⟩)
  | const v=>rfl
  | global g=>rfl
  | func f=>rfl
 have hw:Region.wanted o (yielded ops.toArray b.tmps)=Region.wanted o (yielded ops.toArray a.tmps):=by
  unfold Region.wanted;cases hg:o.guard with
  | none=>rfl
  | some gw =>
    obtain⟨g,want⟩:=gw;have hy:yielded ops.toArray b.tmps g=yielded ops.toArray a.tmps g:=by
     unfold yielded;cases ht:(ops.toArray[g]?).bind (·.dst) with
     | none=>rfl
     | some t =>
       have hmem:t∈o.looksAt ops.toArray:=by
        unfold Oper.looksAt;rw[hg];simp only[ht];exact kFb _ (by simp)
       simp[(hlook t hmem).2]
    simp only[hy]
 have out:∀v:Value,Qk o (a.put o.dst v)=(match o.dst with|some _=>v|none=>undef):=λv=>by
  cases hd':o.dst with
  | none=>simp[Qk,hd']
  | some d =>
    have:=outOf_put (v:=v) hin d hd';rw[hd'] at this;exact this
 rw[hw];unfold wpStepZ at h;split
 . rename_i hwant
   rw[jAb hwant] at h;refine .inl ?_;unfold Oper.wp at h ⊢;rw[hrun];generalize (execOp a.eval o).run P w=r at h ⊢;cases r with
   | ok n w' =>
     cases n <;> simp only[Oper.upon,calmZ] at h ⊢
     case value v=>exact hK v w' (by rw[<- out];exact h.2)
     case skip=>exact hK undef w' (by rw[<- out];exact h.2)
     case defer d =>
      have h1:(d::a.defers)=a.defers:=by
       have:=h.1
       rwa [show ({ a with defers:=d::a.defers }:Act).put o.dst undef=({ a with defers:=d::a.defers }:Act).put o.dst undef from rfl,show (({ a with defers:=d::a.defers }:Act).put o.dst undef).defers=d::a.defers by cases o.dst <;> rfl] at this
      exact absurd (jNa List.length h1) (by simp)
     case enter f args =>
      refine yI h λe w'' he=>?_
      cases e with
      | returned v=>exact hK v w'' (by rw[<- out];exact he.2)
      | panicked c=>exact hZ _ _ he
      | outgrown=>obtain⟨_,_,hf⟩:=he;exact hf.elim
     case row row args=>exact Rows.mono h λv w'' he=>hK v w'' (by rw[<- out];exact he.2)
   | halt x w' =>
     cases x <;> simp only[Oper.upon,calmZ] at h ⊢
     exact hZ _ _ h
 . rename_i hwant
   rw[jAa hwant] at h;exact hK undef w (by rw[<- out];exact h.2)
theorem region_ogZ(Z:List PanicEntry->World->Prop){P:Program}{id:Nat}{ops:List Oper}{Q:Exit->Act->World->Prop}{a:Act}{w:World}(A:List (List Nat))(E:World)(I:PH)(ro ms:List PH)
  (D:Nat->Value->PH->Prop)(MS:(Nat->Bool)->(Nat->Value)->PH->List PH->Prop)
  (hm:P.follows .mixedOrders=true)(chk:ogOk ops A a.tmps.size=true)
  (hS:Sat E I (ro++ms) w)(hMS:MS (λ_=>false) (λ_=>undef) I ms)(mono:∀i v I J,PH.le I J->D i v I->D i v J)
  (step:∀i,i<ops.length->∀(L:Nat->Bool) (vals:Nat->Value) (J:PH) (ns:List PH) (w':World),L i=false->(∀j,j<ops.length->L j=true->∀k∈A.getD j [],L k=true)->(∀j∈A.getD i [],L j=true/\D j (vals j) J)->I.le J->Sat E J (ro++ns) w'->MS L vals J ns ->
    wpStepZ Z P ops (Qd ops i) (λa' w''=>a'.defers=a.defers/\∃(J':PH) (ns':List PH),J.le J'/\Sat E J' (ro++ns') w''/\D i (Qk (Qd ops i) a') J'/\MS (upd L i true) (upd vals i (Qk (Qd ops i) a')) J' ns') (Qc ops vals a i) w')
  (hZ:∀c (b:Act) w',b.defers=a.defers->Z c w'->Q (.panic c) b w')
  (fin:∀(vals:Nat->Value) (J:PH) (ns:List PH) (w':World),I.le J->(∀j,j<ops.length->D j (vals j) J)->Sat E J (ro++ns) w'->(∃L,(∀j,j<ops.length->L j=true)/\MS L vals J ns)->Q .normal (Qc ops vals a ops.length) w') :
  (Code.region id ops.toArray true).wp P Q a w:=by
 refine wp_region_any hm ?_;have key:∀(fuel:Nat) (listed:Array Bool) (L:Nat->Bool) (vals:Nat->Value) (J:PH) (ns:List PH) (w':World),listed.size=ops.length->(∀j,j<ops.length->listed.getD j false=L j) ->
   (∀k,k<ops.length->L k=true->∀j∈Yd (Qd ops k),L j=true)->I.le J->(∀j,L j=true->D j (vals j) J)->Sat E J (ro++ns) w'->MS L vals J ns ->
   ((List.range ops.length).filter λj=>!L j).length<=fuel->wpAny P .any ops.toArray Q fuel listed (Qo ops L vals a ops.length) w':=by
  intro fuel
  induction fuel with
  | zero =>
    intro listed L vals J ns w' hsz hL hdown hJ hD hs hms hf;have hall:∀j,j<ops.length->L j=true:=by
     intro j hj;have h0:((List.range ops.length).filter λj=>!L j)=[]:=jQb (by omega);rw[kPa] at h0
     have:=h0 j (jVb.2 hj)
     simpa using this
    have hr:Region.ready .any ops.toArray listed=[]:=by
     refine kMb.2 λj hj=>?_
     obtain⟨h1,o,ho,_⟩:=mem_ready.1 hj;have hjl:j<ops.length:=by simpa using (jDa.1 ho).1
     have h2:=hL j hjl;rw[hall j hjl] at h2
     have:listed.getD j true=true:=by
      have hjs:j<listed.size:=by omega
      simp[hjs] at h2 ⊢
      exact h2
     rw[this] at h1;cases h1
    refine⟨hr,?_⟩;rw[actL_congr (L':=λ_=>true) _ hall];exact fin vals J ns w' hJ (λj hj=>hD j (hall j hj)) hs ⟨L,hall,hms⟩
  | succ fuel ih =>
    intro listed L vals J ns w' hsz hL hdown hJ hD hs hms hf;refine⟨λhr=>?_,λi hi=>?_⟩
    . have hall:∀j,j<ops.length->L j=true:=by
        intro j
        induction j using Nat.strongRecOn with
        | _ j ihj =>
          intro hj;cases hb:L j with
          | true=>rfl
          | false =>
            exfalso
            have hrow:=(og_row chk hj).1;unfold ogRow at hrow;simp only[jI,jTb] at hrow;have hmem:j∈Region.ready .any ops.toArray listed:=by
             refine mem_ready.2 ⟨?_,Qd ops j,by simpa using opAt_some hj,λe he hbd=>?_⟩
             . have h2:=hL j hj
               rw[hb] at h2;have hjs:j<listed.size:=by omega
               simp[hjs] at h2 ⊢
               exact h2
             . have hin:e.on∈Yd (Qd ops j):=jF.2 ⟨e,jQ.2 ⟨by simpa using he,hbd⟩,rfl⟩
               have hlt:e.on<j:=by simpa using hrow.1.1.1 e.on hin
               rw[hL e.on (by omega)];exact ihj e.on hlt (by omega)
            rw[hr] at hmem;cases hmem
      rw[actL_congr (L':=λ_=>true) _ hall];exact fin vals J ns w' hJ (λj hj=>hD j (hall j hj)) hs ⟨L,hall,hms⟩
    . obtain⟨h1,o,ho,hedges⟩:=mem_ready.1 hi
      have hil:i<ops.length:=by simpa using (jDa.1 ho).1
      have hoe:o=Qd ops i:=by
       have:=opAt_some hil;have h2:ops[i]?=some o:=by simpa using ho
       rw[this] at h2;injection h2 with h2;exact h2.symm
      subst hoe;have his:i<listed.size:=by omega
      have hLi:L i=false:=by
       rw[<- hL i hil];simp[his] at h1 ⊢
       exact h1
      have hdir:∀j∈Yd (Qd ops i),L j=true:=by
       intro j hj;obtain⟨e,he,rfl⟩:=jF.1 hj;obtain⟨he1,he2⟩:=jQ.1 he
       have:=hedges e (by simpa using he1) he2;have hrow:=(og_row chk hil).1;unfold ogRow at hrow;simp only[jI,jTb] at hrow;have hlt:e.on<i:=by simpa using hrow.1.1.1 e.on hj
       rw[<- hL e.on (by omega)];exact this
      have hanc:=og_anc chk hdown i hil hdir;have hrow:=(og_row chk hil).1;unfold ogRow at hrow;simp only[jI] at hrow;have hst:=step i hil L vals J ns w' hLi (λj hj hLj=>og_anc chk hdown j hj (hdown j hj hLj)) (λj hj=>⟨hanc j hj,hD j (hanc j hj)⟩) hJ hs hms;have hsel:isSelect (Qd ops i).op=false:=by simpa using hrow.1.2
      have hds:∀d,(Qd ops i).dst=some d->d<(Qc ops vals a i).tmps.size:=by
       intro d hd;rw[actL_size]
       have:=hrow.2;rw[dstAt_eq hil,hd] at this
       simpa using this
      have:=wpStepZ_carry (b:=Qo ops L vals a ops.length) (Q:=Q) (K:=wpAny P .any ops.toArray Q fuel (listed.setIfInBounds i true)) (R:=λv w''=>∃(J':PH) (ns':List PH),J.le J'/\Sat E J' (ro++ns') w''/\D i v J'/\MS (upd L i true) (upd vals i v) J' ns')
       hsel (λt ht=>by
        have:=looks_same (vals:=vals) chk hdown hil hLi hanc ht;exact⟨by rw[zD,zD,this],this⟩) hds (by
        rw[show (Qc ops vals a i).defers=a.defers from Xf i];exact hst) (λv w'' hR=>by
        obtain⟨J',ns',hJ',hs',hD',hms'⟩:=hR;have hput:(Qo ops L vals a ops.length).put (Qd ops i).dst v=Qo ops (upd L i true) (upd vals i (match (Qd ops i).dst with|some _=>v|none=>undef)) a ops.length:=by
         rw[actL_next i _ hLi (λk d hne hd=>og_unique chk hne hd) _ hil,dstAt_eq hil];cases (Qd ops i).dst <;> rfl
        rw[hput];refine ih _ _ _ J' ns' w'' (by simp[hsz]) (λj hj=>?_) (λk hk hLk j hj=>?_) (hJ.trans hJ') (λj hj=>?_) hs' hms' ?_
        . by_cases hji:j=i
          . subst hji;rw[Qq];simp[his]
          . rw[Qw _ _ hji,<- hL j hj,getD_set_ne false (Ne.symm hji)]
        . by_cases hji:j=i
          . subst hji;exact Qq _ _ _
          . rw[Qw _ _ hji]
            by_cases hki:k=i
            . subst hki;exact hdir j hj
            . rw[Qw _ _ hki] at hLk;exact hdown k hk hLk j hj
        . by_cases hji:j=i
          . subst hji;rw[Qq];exact hD'
          . rw[Qw _ _ hji] at hj ⊢
            exact mono _ _ _ _ hJ' (hD j hj)
        . have hmem:i∈(List.range ops.length).filter λj=>!L j:=jQ.2 ⟨jVb.2 hil,by simp[hLi]⟩
          have hlt:((List.range ops.length).filter λj=>!(upd L i true) j).length<((List.range ops.length).filter λj=>!L j).length:=by
           have e:((List.range ops.length).filter λj=>!(upd L i true) j)=((List.range ops.length).filter λj=>!L j).filter λj=>j != i:=by
            rw[List.filter_filter];refine List.filter_congr λj _=>?_
            by_cases hji:j=i
            . subst hji;simp[upd]
            . simp[upd,hji]
           rw[e];exact List.length_filter_lt_length_iff_exists.2 ⟨i,hmem,by simp⟩
          omega) (λc w'' hz=>hZ c _ w'' (Xf _) hz)
      unfold wpOp;rw[ho];exact this
 have h0:Qo ops (λ_=>false) (λ_=>undef) a ops.length=a:=by
  have:∀n,Qo ops (λ_=>false) (λ_=>undef) a n=a:=λn=>by
   induction n with
   | zero=>rfl
   | succ n ihn=>unfold Qo;simpa using ihn
  exact this _
 have hk:=key ops.toArray.size (Array.replicate ops.toArray.size false) (λ_=>false) (λ_=>undef) I ms { w with drawn:=w.drawn+1 } (by simp) (λj hj=>by simp[hj]) (λ_ _ h=>by cases h) (PH.le.refl _) (λ_ h=>by cases h) (hS.drawn _) hMS (by
  refine jFb (kG _ _) (by simp))
 rw[h0] at hk;exact hk
end
section
structure Veil0 (p:Prop):Prop where
 mk_:p
theorem Veil0.out{p:Prop}(h:Veil0 p):p:=h.mk_
end
section
theorem Zf{P:Program}{id:Nat}{ops:List Oper}{Q:Exit->Act->World->Prop}{a:Act}{w:World}(A:List (List Nat))(E:World)(I:PH)(ro ms:List PH)(bxs:List Bx)(Ds:List Fct)
  (hm:P.follows .mixedOrders=true)(chk:ogOk ops A a.tmps.size=true)(hbx:bxs.Pairwise λb c=>b.i≠c.i/\b.i≠c.s/\b.s≠c.i/\b.s≠c.s)
  (hS:Sat E I (ro++ms) w)(lasting:Lasting Ds)(monoC:∀b∈bxs,∀cs I J,PH.le I J->b.C cs I->b.C cs J)
  (okb:∀b∈bxs,BxOk P ops A b)(dal:∀b∈bxs,∀v J,Facts Ds b.i v J/\Facts Ds b.s v J)
  (fill:∀b∈bxs,∀(vals:Nat->Value) (J:PH),I.le J->Given (λj=>Facts Ds j (vals j) J) (A.getD b.s []) ->
    ∃v,(Qc ops vals a b.s).eval (Zc (Qd ops b.s))=v/\v.cells.size=b.z.size/\v.cells.all (·.oneCell')=true/\b.C v.cells J)
  (plain:Below_ (λk=>(bxs.any λb=>b.i==k||b.s==k)=true\/∀(vals:Nat->Value) (J:PH) (bs:List PH) (w':World),Given (λj=>Facts Ds j (vals j) J) (A.getD k [])->I.le J->Sat E J (ro++(bs++ms)) w' ->
    Veil0 (Ze P ops (Qd ops k) (λa' w''=>a'.defers=a.defers/\∃J':PH,J.le J'/\Sat E J' (ro++(bs++ms)) w''/\Facts Ds k (Qk (Qd ops k) a') J') (Qc ops vals a k) w')) ops.length)
  (fin:∀(vals:Nat->Value) (J:PH) (bs:List PH) (w':World),I.le J->Below_ (λj=>Facts Ds j (vals j) J) ops.length->Sat E J (ro++(bs++ms)) w'->Bxs (λ_=>true) vals J bxs bs->Veil0 (Q .normal (Qc ops vals a ops.length) w')) :
  (Code.region id ops.toArray true).wp P Q a w:=by
 refine region_fn A E I ro ms bxs Ds hm chk hbx hS lasting monoC okb dal fill ?_ (λvals J bs w' h1 h2 h3 h4=>(fin vals J bs w' h1 h2 h3 h4).out)
 have:∀n,Below_ (λk=>(bxs.any λb=>b.i==k||b.s==k)=true\/∀(vals:Nat->Value) (J:PH) (bs:List PH) (w':World),Given (λj=>Facts Ds j (vals j) J) (A.getD k [])->I.le J->Sat E J (ro++(bs++ms)) w' ->
   Veil0 (Ze P ops (Qd ops k) (λa' w''=>a'.defers=a.defers/\∃J':PH,J.le J'/\Sat E J' (ro++(bs++ms)) w''/\Facts Ds k (Qk (Qd ops k) a') J') (Qc ops vals a k) w')) n ->
   Below_ (λk=>(bxs.any λb=>b.i==k||b.s==k)=true\/∀(vals:Nat->Value) (J:PH) (bs:List PH) (w':World),Given (λj=>Facts Ds j (vals j) J) (A.getD k [])->I.le J->Sat E J (ro++(bs++ms)) w' ->
   Ze P ops (Qd ops k) (λa' w''=>a'.defers=a.defers/\∃J':PH,J.le J'/\Sat E J' (ro++(bs++ms)) w''/\Facts Ds k (Qk (Qd ops k) a') J') (Qc ops vals a k) w') n:=by
  intro n
  induction n with
  | zero=>exact λh=>h
  | succ n ih =>
    intro h;refine⟨ih h.1,?_⟩;rcases h.2 with h2|h2
    . exact .inl h2
    . exact .inr λvals J bs w' h3 h4 h5=>(h2 vals J bs w' h3 h4 h5).out
 exact this _ plain
end
end Go.Proofs.YtidamcdklgfogaaGreat
