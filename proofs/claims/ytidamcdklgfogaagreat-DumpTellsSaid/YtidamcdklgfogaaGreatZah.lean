import Derived.Test.YtidamcdklgfogaaGreatZab
import Derived.Test.YtidamcdklgfogaaGreatZaf
import Derived.Test.YtidamcdklgfogaaGreatZag
set_option linter.unusedSimpArgs false
set_option linter.unusedVariables false
set_option maxRecDepth 100000
set_option maxHeartbeats 1000000
namespace Go.Proofs.YtidamcdklgfogaaGreat
section
open Go.RowKit
theorem ty_agg26:Kz Tryz.prog 26=some false:=by kernel_rfl
theorem Zr:Kz Tryz.prog 214=some false:=by kernel_rfl
theorem ty_sz214:Ko Tryz.prog 214=some 1:=by kernel_rfl
theorem ty_z214:Xb Tryz.prog 214=some (.slice none 0 0):=by kernel_rfl
theorem ty_agg24:Kz Tryz.prog 24=some false:=by kernel_rfl
theorem ty_sz24:Ko Tryz.prog 24=some 1:=by kernel_rfl
theorem Kn:Kz Tryz.prog 23=some false:=by kernel_rfl
theorem ty_sz23:Ko Tryz.prog 23=some 1:=by kernel_rfl
theorem ty_z23:Xb Tryz.prog 23=some (.slice none 0 0):=by kernel_rfl
theorem Ki:Kz Tryz.prog 102=some false:=by kernel_rfl
theorem ty_sz102:Ko Tryz.prog 102=some 1:=by kernel_rfl
theorem Xu:Xb Tryz.prog 102=some (.int .i64 0):=by kernel_rfl
abbrev nv (n:Nat):Value:=.int .i64 (n:Int)
def ndC (p:Option G.Nd × Nat):List Value:=match p.1 with
 | none=>[.int .i64 0,.int .i64 0,.int .i64 0,.int .i64 0,.int .i64 0]
 | some n=>[nv p.2,nv n.v,nv n.lo,nv n.hi,nv n.refs]
theorem ndC_len (p:Option G.Nd × Nat):(ndC p).length=5:=by unfold ndC;split <;> rfl
def tkC (o:Option G.Nd):List Value:=[.bool o.isSome]
theorem tkC_len (o:Option G.Nd):(tkC o).length=1:=rfl
def ivC (n:Nat):List Value:=[nv n]
theorem Zn (n:Nat):(ivC n).length=1:=rfl
def Fits (n:G.Nd):Prop:=n.v<4611686018427387904∧n.lo<4611686018427387904∧n.hi<4611686018427387904∧n.refs<4611686018427387905
structure PlFit (p:G.Pl):Prop where
 room:p.room≤1048576
 pos:0<p.slots.length
 len:p.slots.length≤p.room+1
 free:p.free.length≤p.slots.length
 nd:∀ (i:Nat) n,p.slots[i]?=some (some n)→Fits n
abbrev plV (p:G.Pl) (A cA T cT:Nat) (vF:Value):Array Value := #[nv p.room,.slice (some ⟨A,0,none⟩) p.slots.length cA,.slice (some ⟨T,0,none⟩) p.slots.length cT,vF,nv (G.many p.slots)]
def PoolAt (P:Nat) (p:G.Pl) (m:PH):Prop:=PlFit p∧∃ A cA T cT vF mA mT mF,Bd m [PH.one P (.cells (plV p A cA T cT vF) 216),mA,mT,mF] ∧
 OwnP mA 194 5 (.slice (some ⟨A,0,none⟩) p.slots.length cA) p.slots.length (p.slots.zipIdx.flatMap ndC)∧OwnP mT 4 1 (.slice (some ⟨T,0,none⟩) p.slots.length cT) p.slots.length (p.slots.flatMap tkC) ∧
 OwnP mF 3 1 vF p.free.length (p.free.flatMap ivC)
def PoolR (I:PH) (P:Nat) (p:G.Pl):Prop:=PlFit p∧∃ A cA T cT vF nF cF,vF=.slice nF p.free.length cF∧I.at P 0=some (nv p.room)∧I.at P 1=some (.slice (some ⟨A,0,none⟩) p.slots.length cA)∧I.at P 2=some (.slice (some ⟨T,0,none⟩) p.slots.length cT) ∧
 I.at P 3=some vF∧I.at P 4=some (nv (G.many p.slots))∧(∀ (i:Nat) x,p.slots[i]?=some x→Cells I A (i * 5) (ndC (x,i)))∧(∀ (i:Nat) x,p.slots[i]?=some x→I.at T i=some (.bool x.isSome))
theorem PoolR.le {I J:PH} {P:Nat} {p:G.Pl} (h:PoolR I P p) (hJ:I.le J):PoolR J P p:=by
 obtain ⟨h0,A,cA,T,cT,vF,nF,cF,h1,h2,h3,h4,h5,h6,h7,h8⟩:=h
 exact ⟨h0,A,cA,T,cT,vF,nF,cF,h1,PH.at_le hJ h2,PH.at_le hJ h3,PH.at_le hJ h4,PH.at_le hJ h5,PH.at_le hJ h6,fun i x hx=>(h7 i x hx).le hJ,fun i x hx=>PH.at_le hJ (h8 i x hx)⟩
theorem Cells.at {I:PH} {X off:Nat} {vs:List Value} (h:Cells I X off vs) (j:Nat) {v:Value} (hj:vs[j]?=some v):I.at X (off+j)=some v:=h j v hj
theorem Qk {X:Nat} {c:Array Value} {T:TypeId} {j:Nat} {v:Value} (h:c.toList[j]?=some v):(PH.one X (.cells c T (0,0))).at X j=some v:=by
 have:=Cells.one X c T (0,0) j v h
 rwa [Nat.zero_add] at this
theorem PoolAt.read {P:Nat} {p:G.Pl} {m:PH} (h:PoolAt P p m):PoolR m P p:=by
 obtain ⟨hf,A,cA,T,cT,vF,mA,mT,mF,⟨rfl,hd⟩,hA,hT,hF⟩:=h
 have l0:=PH.all_mem hd (List.Mem.head _)
 have l1:=PH.all_mem hd (List.Mem.tail _ (List.Mem.head _))
 have l2:=PH.all_mem hd (List.Mem.tail _ (List.Mem.tail _ (List.Mem.head _)))
 obtain ⟨nF,cF,hvF,_⟩:=hF.shape
 refine ⟨hf,A,cA,T,cT,vF,nF,cF,hvF,PH.at_le l0 (Qk rfl),PH.at_le l0 (Qk rfl),PH.at_le l0 (Qk rfl),PH.at_le l0 (Qk rfl),PH.at_le l0 (Qk rfl),fun i x hx=>?_,fun i x hx=>?_⟩
 · have hz:p.slots.zipIdx[i]?=some (x,i):=by rw [List.getElem?_zipIdx,hx];simp
   exact (Ke ndC_len hA hz).le l1
 · have:=((Ke tkC_len hT hx).le l2).at 0 rfl
   rwa [Nat.mul_one,Nat.add_zero] at this
theorem PoolAt.fit {P:Nat} {p:G.Pl} {m:PH} (h:PoolAt P p m):PlFit p:=h.1
def G.Pl.isI (p:G.Pl) (id:Int):Bool:=decide (0≤id) && (p.nd id.toNat).isSome
section
variable {w:World} {P:Nat} {p:G.Pl}
theorem proom_any (h:PoolR (Qa w) P p):Calls Tryz.prog 158 #[.pointer (some ⟨P,0,none⟩)] w fun e w'=>e=.returned (nv p.room)∧w=w':=by
 obtain ⟨h0,A,cA,T,cT,vF,nF,cF,h1,h2,h3,h4,h5,h6,h7,h8⟩:=h
 have hS:=Sat.start w
 clear h0 h1 h3 h4 h5 h6 h7 h8
 go_enter Tryz.func158,Tryz.ntmps158
 go_wp2_with (first|((with_reducible refine Qc ?_);first|((with_reducible refine Qb ?_);( ((refine' Ka (v:=_) hS rfl rfl ?ha rfl ?hb ?_);(case ha=>exact Qf);(case hb=>assumption)));(try simp only [Act.put,zE,zF,zG]))))
 go_ret
 exact ⟨rfl,rfl⟩
theorem plen_any (h:PoolR (Qa w) P p):Calls Tryz.prog 159 #[.pointer (some ⟨P,0,none⟩)] w fun e w'=>e=.returned (nv (G.many p.slots))∧w=w':=by
 obtain ⟨h0,A,cA,T,cT,vF,nF,cF,h1,h2,h3,h4,h5,h6,h7,h8⟩:=h
 have hS:=Sat.start w
 clear h0 h1 h2 h3 h4 h5 h7 h8
 go_enter Tryz.func159,Tryz.ntmps159
 go_wp2_with (first|((with_reducible refine Qc ?_);first|((with_reducible refine Qb ?_);( ((refine' Ka (v:=_) hS rfl rfl ?ha rfl ?hb ?_);(case ha=>exact Qf);(case hb=>assumption)));(try simp only [Act.put,zE,zF,zG]))))
 go_ret
 exact ⟨rfl,rfl⟩
theorem G.Pl.isI_of {p:G.Pl} {id:Nat} {x:Option G.Nd} (h0:id≠0) (hx:p.slots[id]?=some x):p.isI (id:Int)=x.isSome:=by
 unfold G.Pl.isI G.Pl.nd
 rw [Int.toNat_natCast,if_neg h0,yD,hx]
 simp
theorem G.Pl.isI_no {p:G.Pl} {id:Int} (h:id≤0∨(p.slots.length:Int)≤id):p.isI id=false:=by
 unfold G.Pl.isI G.Pl.nd
 rcases h with h|h
 · by_cases h0:id=0
   · subst h0;simp
   · have:¬ 0≤id:=by omega
     simp [this]
 · rw [yD,List.getElem?_eq_none (by omega)]
   simp
theorem is_any (h:PoolR (Qa w) P p) (id:Int):Calls Tryz.prog 152 #[.pointer (some ⟨P,0,none⟩),.int .i64 id] w fun e w'=>e=.returned (.bool (p.isI id))∧w=w':=by
 obtain ⟨h0,A,cA,T,cT,vF,nF,cF,h1,h2,h3,h4,h5,h6,h7,h8⟩:=h
 have hS:=Sat.start w
 have hl:=h0.len
 have hr:=h0.room
 clear h1 h2 h5 h6 h7
 by_cases c1:0<id
 · by_cases c2:id<(p.slots.length:Int)
   · obtain ⟨j,rfl⟩:∃ j:Nat,id=(j:Int):=⟨id.toNat,by omega⟩
     have hj:j<p.slots.length:=by omega
     have hx:=yA hj
     have h9:=h8 j _ hx
     rw [G.Pl.isI_of (by omega) hx]
     have e9:j * 1=j:=Nat.mul_one j
     generalize p.slots[j].isSome=b at *
     clear h8 hx h0
     generalize p.slots.length=n at *
     generalize p.room=rm at *
     cases b
     all_goals
      go_enter Tryz.func152,Tryz.ntmps152
      go_wp2_with (first|((with_reducible refine Qc ?_);first|((with_reducible refine Qp ?_);  ((with_reducible refine Qi ?hw ?_);case hw=>(simp only [Region.wanted,yielded,zC,zA,zB,zK,beq_self_eq_true];done)) )|((with_reducible refine Qb ?_);( ((refine' Ka (v:=_) hS rfl rfl ?ha rfl ?hb ?_);(case ha=>first|exact Yb|exact Zr|exact ty_agg24);(case hb=>assumption)));(try simp only [Act.put,zE,zF,zG]))))
      go_ret
      exact ⟨rfl,rfl⟩
   · rw [G.Pl.isI_no (.inr (by omega))]
     clear h8 h0
     generalize p.slots.length=n at *
     generalize p.room=rm at *
     go_enter Tryz.func152,Tryz.ntmps152
     go_wp2_with (first|((with_reducible refine Qc ?_);first|((with_reducible refine Qp ?_);  ((with_reducible refine Qi ?hw ?_);case hw=>(simp only [Region.wanted,yielded,zC,zA,zB,zK,beq_self_eq_true];done)) )|((with_reducible refine Qb ?_);( ((refine' Ka (v:=_) hS rfl rfl ?ha rfl ?hb ?_);(case ha =>  exact Zr );(case hb=>assumption)));(try simp only [Act.put,zE,zF,zG]))))
     go_ret
     exact ⟨rfl,rfl⟩
 · rw [G.Pl.isI_no (.inl (by omega))]
   clear h8 h0
   go_enter Tryz.func152,Tryz.ntmps152
   go_wp2_with (first|((with_reducible refine Qc ?_);  ((with_reducible refine Qp ?_);  ((with_reducible refine Qi ?hw ?_);case hw=>(simp only [Region.wanted,yielded,zC,zA,zB,zK,beq_self_eq_true];done)) ) ))
   go_ret
   exact ⟨rfl,rfl⟩
def ndV (id:Int) (o:Option G.Nd):Value:=.agg (ndC (o,id.toNat)).toArray
theorem pat_any (h:PoolR (Qa w) P p) (id:Int):Calls Tryz.prog 128 #[.pointer (some ⟨P,0,none⟩),.int .i64 id] w fun e w'=>e=.returned (.tuple #[ndV id (if p.isI id then p.nd id.toNat else none),.bool (p.isI id)])∧Below w.heap.size w w':=by
 have his:=fun w' (hle:(Qa w).le (Qa w'))=>is_any (h.le hle) id
 by_cases hb:p.isI id=true
 · obtain ⟨h0,A,cA,T,cT,vF,nF,cF,h1,h2,h3,h4,h5,h6,h7,h8⟩:=h
   have hnd:0<id∧∃ n,p.slots[id.toNat]?=some (some n)∧p.nd id.toNat=some n:=by
    unfold G.Pl.isI at hb
    simp at hb
    obtain ⟨n,hn⟩:=yF.1 hb.2
    obtain ⟨g1,g2⟩:=G.Pl.nd_some.1 hn
    exact ⟨by omega,n,g2,hn⟩
   obtain ⟨hpos,n,hn1,hn2⟩:=hnd
   obtain ⟨j,rfl⟩:∃ j:Nat,id=(j:Int):=⟨id.toNat,by omega⟩
   rw [Int.toNat_natCast] at hn1
   have hj:=(yE.1 hn1).1
   have hc:=h7 j _ hn1
   have hval:ndV (j:Int) (if p.isI (j:Int) then p.nd (j:Int).toNat else none)=.agg (ndC (some n,j)).toArray:=by rw [if_pos hb,hn2];rfl
   rw [hval,hb]
   rw [hb] at his
   have HC:Cells (Qa w) A (j * 5) [nv j,nv n.v,nv n.lo,nv n.hi,nv n.refs]:=hc
   have hl:=h0.len
   have hr:=h0.room
   clear h0 h1 h2 h4 h5 h6 h7 h8 hc hn1 hn2 hval hb
   have hS:=Sat.start w
   show Calls _ _ _ _ fun e w'=>e=.returned (.tuple #[.agg #[nv j,nv n.v,nv n.lo,nv n.hi,nv n.refs],.bool true])∧_
   generalize p.slots.length=m at *
   generalize p.room=rm at *
   go_enter Tryz.func128,Tryz.ntmps128
   go_wp2_with (first|(go_at_call 152;(with_reducible refine yI (his _ hS.ile) ?_);rintro e w9 ⟨rfl,rfl⟩)|((with_reducible refine Qc ?_);first|((with_reducible refine Qb ?_);(first|((refine' Ka (v:=_) hS rfl rfl ?ha rfl ?hb ?_);(case ha=>exact Zr);(case hb=>assumption))|((refine' ldIN (vs:=_) hS rfl rfl ?ha rfl ?hc ?hb ?_);(case ha=>exact Zg);(case hc=>assumption);(case hb=>exact Qt)));(try simp only [Act.put,zE,zF,zG]))|((with_reducible refine Qn ?_);(first|(refine stN 0 hS rfl rfl rfl rfl rfl ?ha rfl rfl ?_;(case ha=>exact Qt)));clear hS;intro w hS;(try simp only [zG,Act.eval,zD,zC,zA,zB,zJ,Value.cells] at hS);(try simp only [Act.put]))|((with_reducible refine isAlloc ?_);(refine' al (z:=_) hS rfl rfl ?ha ?_);(case ha=>exact Zp);clear hS;intro X w hS;(try simp only [Value.cells] at hS);(try simp only [Act.put,zE,zF,zG]))))
   refine bodyPost_ret (res2 rfl (rvN 0 hS rfl rfl Zg Qt) (rvt rfl)) rfl ?_
   exact ⟨rfl,hS.end_ (PH.le.refl _)⟩
 · have hb:p.isI id=false:=by simpa using hb
   rw [hb] at his
   rw [hb,if_neg (by simp)]
   have hS:=Sat.start w
   clear h
   show Calls _ _ _ _ fun e w'=>e=.returned (.tuple #[.agg node0,.bool false])∧_
   go_enter Tryz.func128,Tryz.ntmps128
   go_wp2_with (first|(go_at_call 152;(with_reducible refine yI (his _ hS.ile) ?_);rintro e w9 ⟨rfl,rfl⟩)|((with_reducible refine Qc ?_);first|((with_reducible refine Qn ?_);(first|(refine stN 0 hS rfl rfl rfl rfl rfl ?ha rfl rfl ?_;(case ha=>exact Qt)));clear hS;intro w hS;(try simp only [zG,Act.eval,zD,zC,zA,zB,zJ,Value.cells] at hS);(try simp only [Act.put]))|((with_reducible refine isAlloc ?_);(refine' al (z:=_) hS rfl rfl ?ha ?_);(case ha=>exact Zp);clear hS;intro X w hS;(try simp only [Value.cells] at hS);(try simp only [Act.put,zE,zF,zG]))))
   refine bodyPost_ret (res2 rfl (rvN 0 hS rfl rfl Zg Qt) (rvt rfl)) rfl ?_
   exact ⟨rfl,hS.end_ (PH.le.refl _)⟩
end
end
section
open Go.RowKit
theorem Sat.all_le {E w:World} {I:PH} {l ms:List PH} (h:Sat E I ms w) (hl:∀ q ∈ l,q ∈ ms):(PH.all l).le (Qa w):=fun b o hb=>by
 obtain ⟨q,hq,h1⟩:=PH.all_some hb
 exact h.own q (hl q hq) b o h1
theorem Sat.melt {E w:World} {I m:PH} {ms:List PH} (h:Sat E (I.join m) ms w) (ho:I.off m):Sat E I (m::ms) w:=by
 refine ⟨h.os,h.tape,h.output,fun b o hb=>h.imm b o (PH.le_join I m b o hb),fun p hp=>?_,fun p hp b=>?_,List.pairwise_cons.2 ⟨fun p hp b=>?_,h.dis⟩,h.size⟩
 · rcases List.mem_cons.1 hp with rfl|hp
   · exact fun b o hb=>h.imm b o (PH.le_join_right ho b o hb)
   · exact h.own p hp
 · rcases List.mem_cons.1 hp with rfl|hp
   · exact (ho b).symm
   · rcases h.sep p hp b with h1|h1
     · exact .inl h1
     · refine .inr ?_
       cases hI:I b with
       | none=>rfl
       | some o=>rw [PH.le_join I m b o hI] at h1;cases h1
 · rcases h.sep p hp b with h1|h1
   · exact .inr h1
   · refine .inl ?_
     cases hI:m b with
     | none=>rfl
     | some o=>rw [PH.le_join_right ho b o hI] at h1;cases h1
theorem Sat.ice {E w:World} {I m:PH} {ms:List PH} (h:Sat E I (m::ms) w):∃ J:PH,I.le J∧m.le J∧Sat E J ms w∧∀ w' ns,Sat E J ns w'→Sat E I (m::ns) w' :=
 ⟨_,PH.le_join _ _,PH.le_join_right (h.off (.head _)),h.freeze,fun _ _ h'=>h'.melt (h.off (.head _))⟩
def set1G (ms:List PH) (k:Nat) (OK:PH→Prop) (s:Nat) (_:Nat→Value) (_:PH) (ns:List PH):Prop:=if s=0 then ns=ms else ∃ m',OK m'∧ns=ms.set k m'
def set2G (ms:List PH) (k1 k2:Nat) (O1 O2:PH→Prop) (s:Nat) (_:Nat→Value) (_:PH) (ns:List PH):Prop:=if s=0 then ns=ms else if s=1 then ∃ m1,O1 m1∧ns=ms.set k1 m1 else ∃ m1 m2,O1 m1∧O2 m2∧ns=(ms.set k1 m1).set k2 m2
theorem zip_flat_set (l:List (Option G.Nd)) (i:Nat) (hi:i<l.length) (x:Option G.Nd):spl (l.zipIdx.flatMap ndC) (i * 5) (ndC (x,i))=(l.set i x).zipIdx.flatMap ndC:=by
 rw [flat_set ndC_len _ i (by simpa using hi)]
 congr 1
 apply List.ext_getElem?
 intro j
 rw [List.getElem?_set,List.getElem?_zipIdx,List.getElem?_zipIdx,List.getElem?_set]
 by_cases h:i=j
 · subst h;simp [hi]
 · simp [h]
abbrev ndA (id:Nat) (n:G.Nd):Value:=.agg #[nv id,nv n.v,nv n.lo,nv n.hi,nv n.refs]
theorem taken_put:∀ (l:List (Option G.Nd)) (i:Nat) (old n:G.Nd),l[i]?=some (some old)→(l.set i (some n)).flatMap tkC=l.flatMap tkC
 | [],_,_,_,h=>by simp at h
 | a::l,0,old,n,h=>by simp at h;subst h;simp [tkC]
 | a::l,i+1,old,n,h=>by
   rw [zA] at h
   rw [zF,List.flatMap_cons,List.flatMap_cons,taken_put l i old n h]
theorem PlFit.set {p:G.Pl} (h:PlFit p) {id:Nat} {x:Option G.Nd} (hx:∀ n,x=some n→Fits n) {fr:List Nat} (hfr:fr.length≤p.slots.length):PlFit { p with slots:=p.slots.set id x,free:=fr }:=by
 refine ⟨h.room,by simpa using h.pos,by simpa using h.len,by simpa using hfr,fun i a ha=>?_⟩
 rw [List.getElem?_set] at ha
 by_cases hi:id=i
 · rw [if_pos hi] at ha
   split at ha
   · injection ha with ha;exact hx a ha
   · cases ha
 · rw [if_neg hi] at ha
   exact h.nd i a ha
theorem ndA_one (id:Nat) (n:G.Nd):∀ u ∈ (Value.cells (ndA id n)).toList,u.oneCell'=true:=by simp [Value.cells,Value.oneCell']
theorem pset_any (E w:World) (I m:PH) (ms:List PH) (P:Nat) (p:G.Pl) (id:Nat) (n old:G.Nd) (hn:p.nd id=some old) (hfit:Fits n) (hP:PoolAt P p m) (hS:Sat E I (m::ms) w) :
  Calls Tryz.prog 137 #[.pointer (some ⟨P,0,none⟩),ndA id n] w fun e w'=>e=.returned (.int .i64 0)∧∃ m',PoolAt P (p.put id n) m'∧Sat E I (m'::ms) w':=by
 have hR:=hP.read
 obtain ⟨hf,A,cA,T,cT,vF,mA,mT,mF,hbd,hA,hT,hF⟩:=hP
 obtain ⟨g1,g2⟩:=G.Pl.nd_some.1 hn
 have hlt:=(yE.1 g2).1
 have his:p.isI (id:Int)=true:=G.Pl.isI_of g1 g2
 have hput:p.put id n={ p with slots:=p.slots.set id (some n) }:=by unfold G.Pl.put;rw [if_pos (by rw [hn];rfl)]
 have hmany:=G.many_set_same (m:=n) g2
 have hfin:∀ m',OwnP m' 194 5 (.slice (some ⟨A,0,none⟩) p.slots.length cA) p.slots.length (spl (p.slots.zipIdx.flatMap ndC) (id * 5) (ndC (some n,id)))→∀ w',Sat E I (PH.one P (.cells (plV p A cA T cT vF) 216)::m'::mT::mF::ms) w'→∃ m',PoolAt P (p.put id n) m'∧Sat E I (m'::ms) w':=fun m' hO w' hS'=>by
  obtain ⟨m2,hb2,hS2⟩:=Sat.pack [PH.one P (.cells (plV p A cA T cT vF) 216),m',mT,mF] hS'
  refine ⟨m2,⟨?_,A,cA,T,cT,vF,m',mT,mF,?_,?_,?_,by rw [hput];exact hF⟩,hS2⟩
  · rw [hput]
    exact hf.set (fun _ h=>by cases h;exact hfit) hf.free
  · rw [hput]
    simp only [plV,List.length_set,hmany]
    exact hb2
  · rw [hput]
    simp only [List.length_set]
    rw [← zip_flat_set _ _ hlt]
    exact hO
  · rw [hput]
    simp only [List.length_set]
    rw [taken_put _ _ _ _ g2]
    exact hT
 have Hfin:=yH hfin
 have HR:=yH hR
 have HO:=yH hA
 clear hfin hA hT hF hput hmany hn g2
 have hS:=Sat.unpack hbd hS
 have hlen:=hf.len
 have hroom:=hf.room
 have hall:∀ (E' w':World) (J:PH) (ms':List PH),Sat E' J ms' w'→(∀ q ∈ [PH.one P (.cells (plV p A cA T cT vF) 216),mA,mT,mF],q ∈ ms')→PoolR (Qa w') P p:=fun _ _ _ _ h hl=>by
  have:=h.all_le hl
  rw [← hbd.1] at this
  exact HR.out.le this
 have Hall:=yH hall
 clear hall
 clear hf hR hbd HR
 simp only [List.cons_append,List.nil_append] at hS
 go_enter Tryz.func137,Tryz.ntmps137
 go_wp2_with (first|(go_at_call 152;(with_reducible refine yI (is_any (Hall.out _ _ _ _ hS (by simp)) _) ?_);rintro e w9 ⟨rfl,rfl⟩;rw [his])|((with_reducible refine Qc ?_);first|((with_reducible refine Za 3 ?_);refine bx hS rfl rfl rfl ?_;clear hS;intro X w hS;(try simp only [Act.eval,zD,zC,zA,zB,zJ,Value.cells] at hS);(try simp only [Act.put,zE,zF,zG]))|((with_reducible refine Qb ?_);( (refine ld1 0 hS rfl rfl ?ha rfl rfl rfl ?_;(case ha =>  exact Qf)) );(try simp only [Act.put,zE,zF,zG])) ))
 obtain ⟨I1,_,lX,hS1,bX⟩:=hS.ice
 obtain ⟨I2,l12,lP,hS2,bP⟩:=hS1.ice
 have iX0:I2.at X 0=some (nv id):=PH.at_le l12 (PH.at_le lX (Qk rfl))
 have iXc:Cells I2 X 0 [nv id,nv n.v,nv n.lo,nv n.hi,nv n.refs]:=(Cells.one X #[nv id,nv n.v,nv n.lo,nv n.hi,nv n.refs] 194 (0,0)).le (lX.trans l12)
 have iP1:I2.at P 1=some (.slice (some ⟨A,0,none⟩) p.slots.length cA):=PH.at_le lP (Qk rfl)
 have HbX:=yH bX
 have HbP:=yH bP
 clear hS hS1 bX bP lX lP l12 Hall
 refine Qx [[],[0],[0,1],[0,1,2],[],[4],[],[0,1,2,3,4,5,6],[0,1,2,3,4,5,6,7]] E I2 _
  [fun v _=>v=vPt P,fun v _=>v=vPt P,fun v _=>v=.pointer (some ⟨P,1,none⟩),fun v _=>v=.slice (some ⟨A,0,none⟩) p.slots.length cA,fun v _=>v=.pointer (some ⟨X,0,none⟩),fun v _=>v=nv id,fun v _=>v=ndA id n,fun v _=>v=.pointer (some ⟨A,id * 5,none⟩),fun _ _=>True] [8]
  (set1G (mA::mT::mF::ms) 0 fun m'=>OwnP m' 194 5 (.slice (some ⟨A,0,none⟩) p.slots.length cA) p.slots.length (spl (p.slots.zipIdx.flatMap ndC) (id * 5) (ndC (some n,id)))) (by kernel_rfl) (by kernel_rfl) (by decide) hS2 rfl ?last (fun _ _ _ _ _ _ h=>h) (fun _ _ _ _ _ _ h=>h) ?plain ?step ?fin
 case last=>repeat (first|exact Lasting.nil|refine Lasting.cons (fun _ _ _ _ h=>h) ?_)
 case plain=>(repeat' (first|exact trivial|apply And.intro)) <;> first|exact .inl rfl|(refine .inr ?_;intro s vals J bs w hstop hg hJ hS hG;clear hG;simp only [zH,zI,Given,Facts] at hg;simp only [Qd,Qh,Qe,Qj,zH,zI,zA,zB,zK,if_true,Act.put,zE,zF,zG,hg];refine ⟨?_⟩;refine Qg (fun K hK=>?_);have HK:=yH hK;clear hK;rw [if_pos (by rfl)];(first|((with_reducible refine Qs ?_);first|((refine' Qq (v:=_) hS hJ ?ha rfl ?hc ?_);(case ha=>first|exact Zr|exact Qf);(case hc=>assumption))|((refine' wp_ldiN (vs:=_) hS hJ ?ha rfl ?hc ?hb ?_);(case ha=>first|exact Zg);(case hc=>assumption);(case hb=>first|exact Qt)))|(go_wp2_with (fail)));refine HK.out _ _ ⟨rfl,J,PH.le.refl _,hS,?_⟩;clear HK;simp only [Facts];simp only [Qo,zH,zI,Act.put,zE,zF,zG,zD,zC,zA,zB,zJ])
 case step =>
  refine ⟨trivial,?_⟩
  intro vals J bs w hg hJ hS hG
  have hG:bs=_:=hG
  subst hG
  simp only [zH,zI,Given,Facts] at hg;simp only [Qd,Qh,Qe,Qj,zH,zI,zA,zB,zK,if_true,Act.put,zE,zF,zG,hg];refine ⟨?_⟩;refine Qg (fun K hK=>?_);have HK:=yH hK;clear hK;rw [if_pos (by rfl)]
  refine Xr (i:=id) hS 0 rfl rfl rfl rfl HO.out rfl hlt Qt rfl (ndA_one id n) fun m' w hO' hS=>?_
  · refine HK.out _ _ ⟨rfl,J,_,PH.le.refl _,hS,trivial,m',hO',rfl⟩
 case fin =>
  intro vals J bs w hJ hg hS hG
  obtain ⟨m',hO',hns⟩:=hG
  subst hns
  have hS:=hS.less hJ
  have hE:=Hfin.out m' hO' w (by
   have:=HbX.out _ _ (HbP.out _ _ hS)
   exact this.drop)
  have HE:=yH hE
  clear hE hS hO'
  simp only [yB,yC,Nat.reduceAdd,Below_,Facts,zH,zI,true_and,and_true] at hg;simp only [yB,yC,Nat.reduceAdd,Qd,Qh,Qe,zA,zB,zK,if_true,Act.put,zE,zF,zG,hg];refine ⟨?_⟩
  clear hg
  go_wp2
  go_ret
  exact ⟨rfl,HE.out⟩
end
end Go.Proofs.YtidamcdklgfogaaGreat
