import Derived.Test.YtidamcdklgfogaaGreatUab
import Derived.Laws.OwnMore
import Derived.Deep.AppendLies
import Derived.Maps.AppendAt
import Derived.Deep.Slices
import Derived.Deep.Fields
import Derived.RangeFuncNested
import Derived.RangeFuncBound
import Derived.RangeFuncCalls
import Derived.RangeFuncLeaves
import Derived.OwnWalkIn
set_option linter.unusedVariables false
set_option linter.unusedSimpArgs false
namespace Go.Proofs.YtidamcdklgfogaaGreat
section
open Go.RowKit
class Ag (T:TypeId) (b:outParam Bool):Prop where o:Ky Tryz.prog T=some b
class Sz (T:TypeId) (n:outParam Nat):Prop where o:Kg Tryz.prog T=some n
class Zv (T:TypeId) (z:outParam Value):Prop where o:Xh Tryz.prog T=some z
instance:Ag 100 (false):=⟨by kernel_rfl⟩
instance:Ag 101 (false):=⟨by kernel_rfl⟩
instance:Ag 102 (false):=⟨by kernel_rfl⟩
instance:Ag 113 (false):=⟨by kernel_rfl⟩
instance:Ag 114 (false):=⟨by kernel_rfl⟩
instance:Ag 115 (false):=⟨by kernel_rfl⟩
instance:Ag 119 (false):=⟨by kernel_rfl⟩
instance:Ag 122 (false):=⟨by kernel_rfl⟩
instance:Ag 154 (true):=⟨by kernel_rfl⟩
instance:Ag 160 (false):=⟨by kernel_rfl⟩
instance:Ag 161 (false):=⟨by kernel_rfl⟩
instance:Ag 162 (false):=⟨by kernel_rfl⟩
instance:Ag 180 (false):=⟨by kernel_rfl⟩
instance:Ag 182 (false):=⟨by kernel_rfl⟩
instance:Ag 185 (false):=⟨by kernel_rfl⟩
instance:Ag 194 (true):=⟨by kernel_rfl⟩
instance:Ag 204 (true):=⟨by kernel_rfl⟩
instance:Ag 207 (true):=⟨by kernel_rfl⟩
instance:Ag 214 (false):=⟨by kernel_rfl⟩
instance:Ag 217 (false):=⟨by kernel_rfl⟩
instance:Ag 22 (false):=⟨by kernel_rfl⟩
instance:Ag 220 (false):=⟨by kernel_rfl⟩
instance:Ag 225 (true):=⟨by kernel_rfl⟩
instance:Ag 23 (false):=⟨by kernel_rfl⟩
instance:Ag 24 (false):=⟨by kernel_rfl⟩
instance:Ag 26 (false):=⟨by kernel_rfl⟩
instance:Ag 3 (false):=⟨by kernel_rfl⟩
instance:Ag 35 (false):=⟨by kernel_rfl⟩
instance:Ag 36 (false):=⟨by kernel_rfl⟩
instance:Ag 38 (true):=⟨by kernel_rfl⟩
instance:Ag 39 (false):=⟨by kernel_rfl⟩
instance:Ag 4 (false):=⟨by kernel_rfl⟩
instance:Ag 41 (false):=⟨by kernel_rfl⟩
instance:Ag 73 (false):=⟨by kernel_rfl⟩
instance:Ag 85 (true):=⟨by kernel_rfl⟩
instance:Ag 87 (true):=⟨by kernel_rfl⟩
instance:Ag 99 (false):=⟨by kernel_rfl⟩
instance:Sz 100 (1):=⟨by kernel_rfl⟩
instance:Sz 101 (1):=⟨by kernel_rfl⟩
instance:Sz 102 (1):=⟨by kernel_rfl⟩
instance:Sz 119 (1):=⟨by kernel_rfl⟩
instance:Sz 154 (5):=⟨by kernel_rfl⟩
instance:Sz 182 (1):=⟨by kernel_rfl⟩
instance:Sz 194 (5):=⟨by kernel_rfl⟩
instance:Sz 204 (2):=⟨by kernel_rfl⟩
instance:Sz 207 (4):=⟨by kernel_rfl⟩
instance:Sz 214 (1):=⟨by kernel_rfl⟩
instance:Sz 22 (1):=⟨by kernel_rfl⟩
instance:Sz 220 (1):=⟨by kernel_rfl⟩
instance:Sz 225 (9):=⟨by kernel_rfl⟩
instance:Sz 23 (1):=⟨by kernel_rfl⟩
instance:Sz 24 (1):=⟨by kernel_rfl⟩
instance:Sz 3 (1):=⟨by kernel_rfl⟩
instance:Sz 36 (1):=⟨by kernel_rfl⟩
instance:Sz 38 (4):=⟨by kernel_rfl⟩
instance:Sz 39 (1):=⟨by kernel_rfl⟩
instance:Sz 4 (1):=⟨by kernel_rfl⟩
instance:Sz 62 (3):=⟨by kernel_rfl⟩
instance:Sz 73 (1):=⟨by kernel_rfl⟩
instance:Sz 85 (3):=⟨by kernel_rfl⟩
instance:Sz 87 (3):=⟨by kernel_rfl⟩
instance:Zv 100 ((.map none)):=⟨by kernel_rfl⟩
instance:Zv 101 ((.nilFunc)):=⟨by kernel_rfl⟩
instance:Zv 102 ((.int .i64 0)):=⟨by kernel_rfl⟩
instance:Zv 119 ((.slice none 0 0)):=⟨by kernel_rfl⟩
instance:Zv 154 ((.agg #[.int .i64 0,.bool false,.int .i64 0,.int .i64 0,.int .i64 0])):=⟨by kernel_rfl⟩
instance:Zv 194 ((.agg #[.int .i64 0,.int .i64 0,.int .i64 0,.int .i64 0,.int .i64 0])):=⟨by kernel_rfl⟩
instance:Zv 204 ((.agg #[.int .i64 0,.int .i64 0])):=⟨by kernel_rfl⟩
instance:Zv 207 ((.agg #[.int .i64 0,.int .i64 0,.int .i64 0,.int .i64 0])):=⟨by kernel_rfl⟩
instance:Zv 214 ((.slice none 0 0)):=⟨by kernel_rfl⟩
instance:Zv 22 ((.slice none 0 0)):=⟨by kernel_rfl⟩
instance:Zv 220 ((.slice none 0 0)):=⟨by kernel_rfl⟩
instance:Zv 225 ((.agg #[.int .i64 0,.int .i64 0,.int .i64 0,.int .i64 0,.int .i64 0,.int .i64 0,.int .i64 0,.int .i64 0,.int .i64 0])):=⟨by kernel_rfl⟩
instance:Zv 23 ((.slice none 0 0)):=⟨by kernel_rfl⟩
instance:Zv 3 ((.int .i64 0)):=⟨by kernel_rfl⟩
instance:Zv 4 ((.bool false)):=⟨by kernel_rfl⟩
instance:Zv 62 ((.agg #[.int .i64 0,.int .i64 0,.int .i64 0])):=⟨by kernel_rfl⟩
instance:Zv 75 ((.agg #[.pointer none,.slice none 0 0])):=⟨by kernel_rfl⟩
instance:Zv 85 ((.agg #[.int .i64 0,.int .i64 0,.int .i64 0])):=⟨by kernel_rfl⟩
instance:Zv 87 ((.agg #[.int .i64 0,.int .i64 0,.slice none 0 0])):=⟨by kernel_rfl⟩
theorem aL{R G:Prop}(r:R)(h:R->G:=by first|(intro r;(with_reducible refine Qu ?_);(with_reducible refine Qe ?_);(first|(refine ld1 0 hS rfl rfl ?ha rfl rfl rfl ?_;(case ha=>exact Eq.trans Ag.o rfl))|(refine ld1 1 hS rfl rfl ?ha rfl rfl rfl ?_;(case ha=>exact Eq.trans Ag.o rfl))|(refine ld1 2 hS rfl rfl ?ha rfl rfl rfl ?_;(case ha=>exact Eq.trans Ag.o rfl))|(refine ld1 3 hS rfl rfl ?ha rfl rfl rfl ?_;(case ha=>exact Eq.trans Ag.o rfl))|(refine ld1 4 hS rfl rfl ?ha rfl rfl rfl ?_;(case ha=>exact Eq.trans Ag.o rfl))|(refine ld1 5 hS rfl rfl ?ha rfl rfl rfl ?_;(case ha=>exact Eq.trans Ag.o rfl))|(refine ld1 6 hS rfl rfl ?ha rfl rfl rfl ?_;(case ha=>exact Eq.trans Ag.o rfl))|(refine ldN 0 hS rfl rfl ?ha rfl rfl ?hb ?_;(case ha=>exact Eq.trans Ag.o rfl);(case hb=>exact Eq.trans Sz.o rfl))|(refine ldN 1 hS rfl rfl ?ha rfl rfl ?hb ?_;(case ha=>exact Eq.trans Ag.o rfl);(case hb=>exact Eq.trans Sz.o rfl))|(refine ldN 2 hS rfl rfl ?ha rfl rfl ?hb ?_;(case ha=>exact Eq.trans Ag.o rfl);(case hb=>exact Eq.trans Sz.o rfl))|(refine ldN 3 hS rfl rfl ?ha rfl rfl ?hb ?_;(case ha=>exact Eq.trans Ag.o rfl);(case hb=>exact Eq.trans Sz.o rfl))|(refine ldN 4 hS rfl rfl ?ha rfl rfl ?hb ?_;(case ha=>exact Eq.trans Ag.o rfl);(case hb=>exact Eq.trans Sz.o rfl))|(refine ldN 5 hS rfl rfl ?ha rfl rfl ?hb ?_;(case ha=>exact Eq.trans Ag.o rfl);(case hb=>exact Eq.trans Sz.o rfl))|(refine ldN 6 hS rfl rfl ?ha rfl rfl ?hb ?_;(case ha=>exact Eq.trans Ag.o rfl);(case hb=>exact Eq.trans Sz.o rfl))|((refine' ldI1 (v:=_) hS rfl rfl ?ha rfl ?hb ?_);(case ha=>exact Eq.trans Ag.o rfl);(case hb=>assumption))|((refine' ldIN (vs:=_) hS rfl rfl ?ha rfl ?hc ?hb ?_);(case ha=>exact Eq.trans Ag.o rfl);(case hc=>assumption);(case hb=>exact Eq.trans Sz.o rfl)));(try simp only[Act.put,zE,zF,zG]);exact r)):G:=h r
theorem aS{R G:Prop}(r:R)(h:R->G:=by first|(intro r;(with_reducible refine Qu ?_);(with_reducible refine Xa ?_);(first|(refine st1 0 hS rfl rfl rfl rfl rfl ?ha rfl rfl ?hb ?_;(case ha=>exact Eq.trans Sz.o rfl);(case hb=>(simp;done)))|(refine st1 1 hS rfl rfl rfl rfl rfl ?ha rfl rfl ?hb ?_;(case ha=>exact Eq.trans Sz.o rfl);(case hb=>(simp;done)))|(refine st1 2 hS rfl rfl rfl rfl rfl ?ha rfl rfl ?hb ?_;(case ha=>exact Eq.trans Sz.o rfl);(case hb=>(simp;done)))|(refine st1 3 hS rfl rfl rfl rfl rfl ?ha rfl rfl ?hb ?_;(case ha=>exact Eq.trans Sz.o rfl);(case hb=>(simp;done)))|(refine st1 4 hS rfl rfl rfl rfl rfl ?ha rfl rfl ?hb ?_;(case ha=>exact Eq.trans Sz.o rfl);(case hb=>(simp;done)))|(refine st1 5 hS rfl rfl rfl rfl rfl ?ha rfl rfl ?hb ?_;(case ha=>exact Eq.trans Sz.o rfl);(case hb=>(simp;done)))|(refine st1 6 hS rfl rfl rfl rfl rfl ?ha rfl rfl ?hb ?_;(case ha=>exact Eq.trans Sz.o rfl);(case hb=>(simp;done)))|(refine stN 0 hS rfl rfl rfl rfl rfl ?ha rfl rfl ?_;(case ha=>exact Eq.trans Sz.o rfl))|(refine stN 1 hS rfl rfl rfl rfl rfl ?ha rfl rfl ?_;(case ha=>exact Eq.trans Sz.o rfl))|(refine stN 2 hS rfl rfl rfl rfl rfl ?ha rfl rfl ?_;(case ha=>exact Eq.trans Sz.o rfl))|(refine stN 3 hS rfl rfl rfl rfl rfl ?ha rfl rfl ?_;(case ha=>exact Eq.trans Sz.o rfl))|(refine stN 4 hS rfl rfl rfl rfl rfl ?ha rfl rfl ?_;(case ha=>exact Eq.trans Sz.o rfl))|(refine stN 5 hS rfl rfl rfl rfl rfl ?ha rfl rfl ?_;(case ha=>exact Eq.trans Sz.o rfl))|(refine stN 6 hS rfl rfl rfl rfl rfl ?ha rfl rfl ?_;(case ha=>exact Eq.trans Sz.o rfl)));intro w hS;(try simp only[zF,zG,zE,Act.eval,zD,zC,zA,zB,zJ,Value.cells] at hS);(try simp only[Act.put,zE,zF,zG]);revert w hS;exact r)):G:=h r
theorem aX{R G:Prop}(r:R)(h:R->G:=by first|(intro r;(with_reducible refine Qu ?_);(first|((with_reducible refine isBox ?_);refine bx hS rfl rfl rfl ?_)|((with_reducible refine isAlloc ?_);(refine' al (z:=_) hS rfl rfl ?ha ?_);(case ha=>exact Zv.o)));intro X w hS;(try simp only[Act.eval,zD,zC,zA,zB,zJ,Value.cells] at hS);(try simp only[Act.put,zE,zF,zG]);revert X w hS;exact r)):G:=h r
theorem aY{R G:Prop}(r:R)(h:R->G:=by first|(intro r;(with_reducible refine Qu ?_);(with_reducible refine Kz ?_);(refine' bsl hS ?hr ?_);(case hr=>(intro w0;go_simp;try rfl));intro X w hS;(try simp only[Act.eval,zD,zC,zA,zB,zJ,Value.cells] at hS);(try simp only[Act.put,zE,zF,zG]);revert X w hS;exact r)):G:=h r
def Tg(d:Nat)(G:Prop):Prop:=G
theorem tgB{P:Program}{a:Act}{w:World}{Q:Exit->Act->World->Prop}{ops:Array Oper}{rest:List Oper}{type:TypeId}{pos:String}{after:Array Edge}{d:Nat}{T:TypeId}{x:Operand}(h:wpList P ops Q (⟨some d,.box T x,type,pos,after,none⟩::rest) a w):Tg d (wpList P ops Q (⟨some d,.box T x,type,pos,after,none⟩::rest) a w):=h
theorem tgA{P:Program}{a:Act}{w:World}{Q:Exit->Act->World->Prop}{ops:Array Oper}{rest:List Oper}{type:TypeId}{pos:String}{after:Array Edge}{d:Nat}{T:TypeId}(h:wpList P ops Q (⟨some d,.alloc T,type,pos,after,none⟩::rest) a w):Tg d (wpList P ops Q (⟨some d,.alloc T,type,pos,after,none⟩::rest) a w):=h
theorem tgS{P:Program}{a:Act}{w:World}{Q:Exit->Act->World->Prop}{ops:Array Oper}{rest:List Oper}{type:TypeId}{pos:String}{after:Array Edge}{d:Nat}{T:TypeId}{n:Nat}{parts:Array (Nat×Operand)}(h:wpList P ops Q (⟨some d,.buildSlice T n parts,type,pos,after,none⟩::rest) a w):Tg d (wpList P ops Q (⟨some d,.buildSlice T n parts,type,pos,after,none⟩::rest) a w):=h
theorem aN(d:Nat){R G:Prop}(r:R)(h:R->Tg d G:=by first|(intro r;(first|((with_reducible refine tgB ?_);refine bx hS rfl rfl rfl ?_)|((with_reducible refine tgA ?_);(refine' al (z:=_) hS rfl rfl ?ha ?_);(case ha=>exact Zv.o))|((with_reducible refine tgS ?_);(refine' bsl hS ?hr ?_);(case hr=>(intro w0;go_simp;try rfl))));intro X w hS;(try simp only[Act.eval,zD,zC,zA,zB,zJ,Value.cells] at hS);(try simp only[Act.put,zE,zF,zG]);revert X w hS;exact r)):G:=h r
theorem aG{R G:Prop}(r:R)(h:R->G:=by first|(intro r;(with_reducible refine Qu ?_);((with_reducible refine Zs ?_);first|go_skip|((with_reducible refine guarded_no ?hw ?_);(case hw=>(simp only[Region.wanted,yielded,zC,zA,zB,zK];first|exact (rfl:(some true==some false)=false)|exact (rfl:(some false==some true)=false)));(try simp only[Act.put,zE,zF,zG]))|((with_reducible refine Qy ?hw ?_);case hw=>(simp only[Region.wanted,yielded,zC,zA,zB,zK,jUa];done)));exact r)):G:=h r
theorem bS{R G:Prop}(r:R)(h:R->G:=by first|(intro r;simp only[zH,zI,Given,Facts] at hg;simp only[Qc,Qo,Qi,Qd,zH,zI,zA,zB,zK,jEb,Act.put,zE,zF,zG,hg];refine⟨?_⟩;refine wpStep_of (λK hK=>?_);have HK:=yH hK;clear hK;rw[jAb (by rfl)];revert K HK;exact r)):G:=h r
theorem bZ{R G:Prop}(r:R)(h:R->G:=by first|(intro r;simp only[zH,zI,Given,Facts] at hg;simp only[Qc,Qo,Qi,Qd,zH,zI,zA,zB,zK,jEb,Act.put,zE,zF,zG,hg];refine⟨?_⟩;refine Kj (λK hK=>?_);have HK:=yH hK;clear hK;rw[jAb (by rfl)];revert K HK;exact r)):G:=h r
theorem bH{R G:Prop}(r:R)(h:R->G:=by first|(intro r;simp only[yB,yC,Nat.reduceAdd,Below_,Facts,zH,zI,kS,kJb] at hg;simp only[yB,yC,Nat.reduceAdd,Qc,Qo,Qi,Qd,zH,zI,zA,zB,zK,jEb,Act.put,zE,zF,zG,hg];refine⟨?_⟩;exact r)):G:=h r
theorem bO{G:Prop}(h:G:=by first|(refine HK.out _ _ ⟨rfl,J,PH.le.refl _,hS,?_⟩;clear HK;simp only[Facts];simp only[Qk,zH,zI,Act.put,zE,zF,zG,zD,zC,zA,zB,zJ])):G:=h
theorem bP{G:Prop}(h:G:=by first|(refine HK.out _ _ ⟨rfl,J9,PH.le.refl _,hS,?_⟩;clear HK;simp only[Facts];simp only[Qk,zH,zI,Act.put,zE,zF,zG,zD,zC,zA,zB,zJ])):G:=h
theorem bL{G:Prop}(h:G:=by first|(repeat (first|exact Lasting.nil|refine Lasting.cons (λ_ _ _ _ h=>h) ?_))):G:=h
theorem bJ{R G:Prop}(r:R)(h:R->G:=by first|(intro r;(with_reducible refine atLoad ?_);(first|((refine' wp_ldi1 (v:=_) hS hJ ?ha rfl ?hc ?_);(case ha=>exact Eq.trans Ag.o rfl);(case hc=>assumption))|((refine' wp_ldiN (vs:=_) hS hJ ?ha rfl ?hc ?hb ?_);(case ha=>exact Eq.trans Ag.o rfl);(case hc=>assumption);(case hb=>exact Eq.trans Sz.o rfl)));exact r)):G:=h r
theorem bK{R G:Prop}(r:R)(h:R->G:=by first|(intro r;(with_reducible refine atLoad ?_);(first|((refine' wp_ldi1 (v:=_) hS hJ9 ?ha rfl ?hc ?_);(case ha=>exact Eq.trans Ag.o rfl);(case hc=>assumption))|((refine' wp_ldiN (vs:=_) hS hJ9 ?ha rfl ?hc ?hb ?_);(case ha=>exact Eq.trans Ag.o rfl);(case hc=>assumption);(case hb=>exact Eq.trans Sz.o rfl)));exact r)):G:=h r
theorem bM{G:Prop}(h:G:=by first|(intro b' hb' cs J K hJK;simp only[jBa,jCa,jJb] at hb';subst hb';exact λh=>h)):G:=h
theorem bN{G:Prop}(h:G:=by first|(intro b' hb' v' J;simp only[jBa,jCa,jJb] at hb';subst hb';exact⟨trivial,trivial⟩)):G:=h
theorem bC{P:Program}{f:FuncId}{args:Array Value}{w:World}{v:Ending}{R':Ending->World->Prop}(h:Calls P f args w λe w'=>e=v/\w=w')(k:R' v w):Calls P f args w R':=h.mono λe w' ⟨a,b⟩=>by subst a b;exact k
theorem bB{P:Program}{E:World}{I:PH}{ms:List PH}{f:FuncId}{args:Array Value}{w:World}{v:Ending}{R':Ending->World->Prop}(hS:Sat E I ms w)(h:Calls P f args w λe w'=>e=v/\Below w.heap.size w w')(k:∀w',Sat E I ms w'->R' v w'):Calls P f args w R':=h.mono λe w' ⟨a,b⟩=>by subst a;exact k w' (hS.below_ b)
theorem aM{R G:Prop}(r:R)(h:R->G:=by first|(intro r;(try simp only[Act.put,zE,zF,zG]);exact r)):G:=h r
theorem bU{R G:Prop}(r:R)(h:R->G:=by first|(intro r;refine⟨?_⟩;refine wpStep_of (λK hK=>?_);have HK:=yH hK;clear hK;rw[jAb (by rfl)];revert K HK;exact r)):G:=h r
theorem bV{R G:Prop}(r:R)(h:R->G:=by first|(intro r;refine⟨?_⟩;refine Kj (λK hK=>?_);have HK:=yH hK;clear hK;rw[jAb (by rfl)];revert K HK;exact r)):G:=h r
theorem bD{P:Program}{f:FuncId}{args:Array Value}{w:World}{v:Ending}{α:Type}{A:α->Prop}{S:α->World->Prop}{R':Ending->World->Prop}(h:Calls P f args w λe w'=>e=v/\∃p,A p/\S p w')(k:∀w' p,Hid (A p)->S p w'->R' v w'):Calls P f args w R':=h.mono λe w' ⟨a,p,b,c⟩=>by subst a;exact k w' p (yH b) c
end
section
open Go.RowKit
theorem block_of_add(a:Addr)(n:Nat):(a.add n).block=a.block:=by unfold Addr.add;split <;> rfl
theorem add_of_add(a:Addr)(i j:Nat):(a.add i).add j=a.add (i+j):=by
 unfold Addr.add;by_cases hi:i=0 <;> by_cases hj:j=0 <;> simp[hi,hj,kYb]
def Reads(w:World)(B size:Nat)(A:Option Addr)(n:Nat)(xs:List Value):Prop :=
 xs.length=n*size/\(0<n->∃ad,A=some ad/\ad.block<B/\∀j u,xs[j]?=some u->w.cell? (ad.add j)=some u)
section
variable{w w':World} {B B' size n:Nat} {A:Option Addr} {xs:List Value}
theorem Reads.none_:Reads w B size A 0 []:=⟨by simp,λh=>absurd h (by omega)⟩
theorem Reads.at_{k:Nat}(h:Reads w B 1 A n xs)(hk:k<n):∃ad u,A=some ad/\ad.block<B/\xs[k]?=some u/\w.cell? (ad.add k)=some u:=by
 obtain⟨ad,e,hb,hc⟩:=h.2 (by omega);have hl:k<xs.length:=by have:=h.1;omega
 exact⟨ad,xs[k],e,hb,yA hl,hc k _ (yA hl)⟩
theorem Reads.keep(h:Reads w B size A n xs)(hk:∀p:Addr,p.block<B->w'.cell? p=w.cell? p):Reads w' B size A n xs :=
 ⟨h.1,λhn=>by
   obtain⟨ad,e,hb,hc⟩:=h.2 hn;exact⟨ad,e,hb,λj u hu=>(hk _ (by rw[block_of_add];exact hb)).trans (hc j u hu)⟩⟩
theorem Reads.alloc(h:Reads w B size A n xs)(hB:B<=w.heap.size)(o:Obj):Reads (w.alloc o) B size A n xs:=h.keep λp hp=>World.cell?_alloc_lt w o p (by omega)
theorem Reads.setCell(h:Reads w B size A n xs){p:Addr}(hB:B<=p.block)(u:Value):Reads (w.setCell p u) B size A n xs :=
 h.keep λq hq=>World.cell?_setCell_other w p q u (λe=>by subst e;omega)
end
def Blk(w:World)(g:Nat)(t:TypeId)(cs:Array Value):Prop:=w.heap[g]?=some (.cells cs t (0,0))
section
variable{w w':World} {g:Nat} {t:TypeId} {cs:Array Value}
theorem Blk.lt(h:Blk w g t cs):g<w.heap.size:=by
 rcases jYb g w.heap.size with hlt|hge
 . exact hlt
 . unfold Blk at h;rw[Array.getElem?_eq_none hge] at h;cases h
theorem Blk.cell(h:Blk w g t cs)(i:Nat):w.cell? ⟨g,i,none⟩=cs[i]?:=cell_of_row w g i cs t (0,0) h
theorem Blk.frozen(h:Blk w g t cs)(i:Nat):w.frozen? ⟨g,i,none⟩=false:=by
 unfold Blk at h;simp[World.frozen?,h]
theorem Blk.new(w:World)(t:TypeId)(cs:Array Value):Blk (w.alloc (.cells cs t)) w.heap.size t cs:=heap_alloc_new w _
theorem Blk.alloc(h:Blk w g t cs)(o:Obj):Blk (w.alloc o) g t cs:=(Below.heap_alloc w o g h.lt).trans h
end
section
variable{P:Program} (w:World)
end
def Own(w:World)(base:Nat)(e:TypeId)(size:Nat)(v:Value)(n:Nat)(xs:List Value):Prop :=
 xs.length=n*size/\((v=.slice none 0 0/\n=0) \/
  ∃g cap cur,v=.slice (some ⟨g,0,none⟩) n cap/\base<=g/\w.heap[g]?=some (.cells cur e (0,0))/\n<=cap/\cap<=maxLen/\cap*size<=cur.size/\cur.toList.take (n*size)=xs)
section
variable{w w':World} {base e size n:Nat} {v:Value} {xs:List Value}
theorem Own.ofRow(h:w.ownsRow base e size v n xs):Own w base e size v n xs:=by
 refine⟨h.1,?_⟩;rcases h.2 with h|⟨g,cap,cur,h1,h2,h3,h4,h5,h6,h7⟩
 . exact .inl h
 . exact .inr ⟨g,cap,cur,h1,h2,h3,h4,h5,by omega,h7⟩
theorem Own.nil(w:World)(base e size:Nat):Own w base e size (.slice none 0 0) 0 []:=⟨by simp,.inl ⟨rfl,rfl⟩⟩
theorem Own.lt(h:Own w base e size v n xs):∀k,v.ownBlock=some k->base<=k/\k<w.heap.size:=by
 intro k hk;rcases h.2 with⟨rfl,_⟩|⟨g,cap,cur,rfl,hb,hg,_⟩
 . simp[Value.ownBlock] at hk
 . simp only[Value.ownBlock,jEa] at hk
   subst hk;exact⟨hb,Blk.lt hg⟩
theorem Own.keep(h:Own w base e size v n xs)(hk:∀g,v.ownBlock=some g->w'.heap[g]?=w.heap[g]?):Own w' base e size v n xs:=by
 refine⟨h.1,?_⟩;rcases h.2 with h|⟨g,cap,cur,rfl,h2,h3,h4⟩
 . exact .inl h
 . exact .inr ⟨g,cap,cur,rfl,h2,(hk g rfl).trans h3,h4⟩
theorem Own.alloc(h:Own w base e size v n xs)(o:Obj):Own (w.alloc o) base e size v n xs:=h.keep λg hg=>Below.heap_alloc w o g (h.lt g hg).2
end
section
variable{P:Program} (w:World)
theorem run_append_Own(base:Nat)(t ty e:TypeId)(i:TypeInfo)(z:Value)(size bytes:Nat)(ht:P.underlying t=some (.slice e))(hi:P.info? e=some i)(hz:i.zero=some z)
  (hsize:i.size=size)(hby:i.bytes=bytes)(hzs:z.cells.size=size)(hsz:0<size)
  (v:Value)(n:Nat)(xs:List Value)(hown:Own w base e size v n xs)
  (a:Addr)(m c:Nat)(news:List Value)(hl:news.length=m*size)(hnews:∀j u,news[j]?=some u->w.cell? (a.add j)=some u)(h1:∀u∈news,u.oneCell'=true)
  (h63:n+m<=maxLen)(hbytes:(n+m)*bytes<=140737488355328)(hbase:base<=w.heap.size) :
  ∃v' w',(Builtin.append_ #[t,t] ty #[v,.slice (some a) m c]).run P w=.ok v' w'/\Own w' base e size v' (n+m) (xs++news)/\w.grownBy w' v.ownBlock/\(v'.ownBlock=v.ownBlock\/v'.ownBlock=some w.heap.size):=by
 rcases hown.2 with⟨rfl,rfl⟩|⟨g,cap,cur,rfl,hbg,hg,hnc,hcm,hcs,htake⟩
 . have hx:xs=[]:=jQb (by simpa using hown.1)
   subst hx;obtain⟨v',w',hr,h2,h3,_,h5⟩:=run_append_own_at (P:=P) w base t ty e i z size bytes ht hi hz hsize hby hzs hsz _ 0 [] (World.ownsRow_nil w base e size) a m c news hl hnews h1 h63 hbytes hbase;exact⟨v',w',hr,Own.ofRow h2,h3,h5⟩
 . by_cases hroom:n+m<=cap
   . subst hsize
     have hfit:n*i.size+news.length<=cur.size:=by
      rw[hl,<- kPb];exact jFb (jSb _ hroom) hcs
     have hr:=run_append_room (P:=P) w t ty e i ht hi g n cap cur hg a m c news hl hnews h1 hroom hfit;have hlen:(xs++news).length=(n+m)*i.size:=by rw[yG,hown.1,hl,kPb]
     refine⟨_,_,hr,⟨hlen,.inr ⟨g,cap,_,rfl,hbg,setRow_heap w g cur _ e _ hg,hroom,hcm,?_,?_⟩⟩,⟨rfl,rfl,rfl,by simp,λk _ hk=>setRow_other w g k _ (λe=>hk (by simp[Value.ownBlock,e]))⟩,.inl rfl⟩
     . simp only[jS,yG,jSa,kHb,Array.length_toList]
       omega
     . rw[htake,<- hlen]
       exact qD
   . have hn:Own w base e size (.slice (some ⟨g,0,none⟩) n cap) n xs:=hown
     have hall:∀j u,xs[j]?=some u->w.cell? ((⟨g,0,none⟩:Addr).add j)=some u:=by
      intro j u hu;have hj:j<n*size:=by rw[<- hown.1];exact (yE.1 hu).1
      have h0:(⟨g,0,none⟩:Addr).add j=⟨g,j,none⟩:=by
       unfold Addr.add;by_cases h0:j=0 <;> simp[h0]
      rw[h0,Blk.cell hg j,<- hu,<- htake,kN hj];simp
     subst hsize;subst hby
     have hsmall:n+m<=9223372036854775807:=by simp only[maxLen] at h63;omega
     have hlen:(xs++news).length=(n+m)*i.size:=by rw[yG,hown.1,hl,kPb]
     have hr:=run_append_grow (P:=P) w t ty e i z ht hi hz ⟨g,0,none⟩ n cap xs hown.1 hall a m c news hl hnews (by omega) (by omega) (growslice_fits (by omega) hbytes);have hge:=grownCap_ge w (n+m) cap e;have hcm':grownCap w (n+m) cap e<=maxLen:=grownCap_le_maxLen w (n+m) cap e h63;refine⟨_,_,hr,⟨hlen,.inr ⟨w.heap.size,_,_,rfl,hbase,heap_alloc_new w.drew _,hge,hcm',?_,?_⟩⟩,⟨rfl,rfl,rfl,by simp,λk hk _=>Below.heap_alloc w.drew _ k hk⟩,.inr rfl⟩
     . simp only[Array.size_append,jS,size_zeroCells,hzs,hown.1,hl,<- kPb]
       refine jSb _ ?_;omega
     . simp only[Array.toList_append,jE]
       rw[<- jE,<- hlen];exact qD
theorem wp_append_Own{o:Oper}{a:Act}{K:Act->World->Prop}{Q:Exit->Act->World->Prop}(s x:Operand)(t:TypeId)
  (ho:o.op=.call { callee:=.builtin .append,args := #[s,x],argTypes := #[t,t] })
  (base:Nat)(e:TypeId)(i:TypeInfo)(z:Value)(size bytes:Nat)(ht:P.underlying t=some (.slice e))(hi:P.info? e=some i)(hz:i.zero=some z)
  (hsize:i.size=size)(hby:i.bytes=bytes)(hzs:z.cells.size=size)(hsz:0<size)
  (v:Value)(n:Nat)(xs:List Value)(hs:a.eval s=v)(hown:Own w base e size v n xs)
  (ad:Addr)(m c:Nat)(news:List Value)(hx:a.eval x=.slice (some ad) m c)(hl:news.length=m*size)(hnews:∀j u,news[j]?=some u->w.cell? (ad.add j)=some u)(h1:∀u∈news,u.oneCell'=true)
  (h63:n+m<=maxLen)(hbytes:(n+m)*bytes<=140737488355328)(hbase:base<=w.heap.size)
  (h:∀v' w',Own w' base e size v' (n+m) (xs++news)->w.grownBy w' v.ownBlock->(v'.ownBlock=v.ownBlock\/v'.ownBlock=some w.heap.size)->K (a.put o.dst v') w'):o.wp P a w K Q:=by
 obtain⟨v',w',hrun,h2,h3,h4⟩:=run_append_Own (P:=P) w base t o.type e i z size bytes ht hi hz hsize hby hzs hsz v n xs hown ad m c news hl hnews h1 h63 hbytes hbase;unfold Oper.wp execOp;simp only[ho,resolve,invoke,builtin,Sem.run_bind,Sem.run_pure,Result.andThen_ok,kTb,jDb,jZ,hs,hx,hrun];exact h v' w' h2 h3 h4
end
end
section
open Go.RowKit
structure Chg (F F':List Nat) (w w':World):Prop where
 os:w'.os=w.os
 tape:w'.tape=w.tape
 output:w'.output=w.output
 size:w.heap.size<=w'.heap.size
 same:∀b,b<w.heap.size->b∉F->w'.heap[b]?=w.heap[b]?
 fresh:∀b,b∈F'->b∈F\/w.heap.size<=b
theorem Chg.refl(F:List Nat)(w:World):Chg F F w w:=⟨rfl,rfl,rfl,jBb _,λ_ _ _=>rfl,λ_ h=>.inl h⟩
theorem Chg.trans{F F' F'':List Nat}{a b c:World}(h:Chg F F' a b)(k:Chg F' F'' b c):Chg F F'' a c :=
 ⟨k.os.trans h.os,k.tape.trans h.tape,k.output.trans h.output,jFb h.size k.size,
   λx hx hn=>(k.same x (jZa hx h.size) (λhm=>by
    rcases h.fresh x hm with h1|h1
    . exact hn h1
    . omega)).trans (h.same x hx hn),
   λx hx=>by
    rcases k.fresh x hx with h1|h1
    . exact h.fresh x h1
    . exact .inr (jFb h.size h1)⟩
theorem Chg.of_below{F:List Nat}{w w':World}(h:Below w.heap.size w w'):Chg F F w w' :=
 ⟨h.os,h.tape,h.output,h.size,λb hb _=>h.block b hb,λ_ h=>.inl h⟩
theorem Chg.le{F F':List Nat}{w w':World}{B:Nat}(h:Chg F F' w w')(hF:∀b∈F,B<=b)(hB:B<=w.heap.size):∀b∈F',B<=b:=by
 intro b hb;rcases h.fresh b hb with h1|h1
 . exact hF b h1
 . omega
theorem Chg.alloc{F F':List Nat}{a w:World}(h:Chg F F' a w)(o:Obj):Chg F F' a (w.alloc o) :=
 h.trans (Chg.of_below ((Below.refl _ _).alloc (jBb _) o))
theorem Chg.setCell{F F':List Nat}{a w:World}(h:Chg F F' a w){p:Addr}(hp:p.block∈F')(u:Value):Chg F F' a (w.setCell p u) :=
 h.trans ⟨rfl,rfl,rfl,by simp[World.setCell],λb _ hn=>Below.heap_setCell w p u b (λe=>hn (e ▸ hp)),λ_ h=>.inl h⟩
theorem Chg.from{F F' F₀:List Nat}{w w':World}(h:Chg F F' w w')(hf:∀b∈F,b∈F₀):Chg F₀ F' w w' :=
 ⟨h.os,h.tape,h.output,h.size,λb hb hn=>h.same b hb (λhm=>hn (hf b hm)),λb hb=>by
   rcases h.fresh b hb with h1|h1
   . exact .inl (hf b h1)
   . exact .inr h1⟩
theorem Chg.own{F F':List Nat}{w w':World}{base e size n:Nat}{v:Value}{xs:List Value}(h:Chg F F' w w')(ho:Own w base e size v n xs)(hn:∀g,v.ownBlock=some g->g∉F):Own w' base e size v n xs :=
 ho.keep λg hg=>h.same g (ho.lt g hg).2 (hn g hg)
theorem Chg.apart{F F':List Nat}{w w':World}(h:Chg F F' w w'){g:Nat}(hg:g<w.heap.size)(hn:g∉F):g∉F':=λhm=>by
 rcases h.fresh g hm with h1|h1
 . exact hn h1
 . omega
end
section
open Go.ChangeShapes Go.WideShapes Go.ChangeAt Go.RowKit
theorem wf_i64{a:Int}(h:(Lit.int .i64 a).wf=true) : -9223372036854775808<=a/\a<=9223372036854775807:=by
 simp only[Lit.wf,jI,jPa] at h;exact h
def RL(w:World)(B size:Nat)(A:Option Addr)(n:Nat)(xs:List Value):Prop :=
 xs.length=n*size/\(0<n->∃b o,A=some ⟨b,o,none⟩/\b<B/\∀k,k<n*size->w.cell? ⟨b,o+k,none⟩=xs[k]?)
section
variable{w w':World} {B B' size n:Nat} {A:Option Addr} {xs:List Value}
theorem RL.at_(h:RL w B size A n xs)(hn:0<n):∃b o,A=some ⟨b,o,none⟩/\b<B/\∀k,k<n*size->w.cell? ⟨b,o+k,none⟩=xs[k]?:=h.2 hn
theorem RL.keep(h:RL w B size A n xs)(hk:∀b,b<B->w'.heap[b]?=w.heap[b]?):RL w' B size A n xs :=
 ⟨h.1,λhn=>by
   obtain⟨b,o,e,hb,hc⟩:=h.2 hn;exact⟨b,o,e,hb,λk hkn=>(World.cell?_of_block (w:=w) (a:=⟨b,o+k,none⟩) (hk b hb)).trans (hc k hkn)⟩⟩
theorem RL.alloc(h:RL w B size A n xs)(hB:B<=w.heap.size)(o:Obj):RL (w.alloc o) B size A n xs:=h.keep λb hb=>Below.heap_alloc w o b (by omega)
end
section
variable{H:Type} {enc:TypeId×Value->H} {P:Program} {W:World} {base b0:Nat} {sp:Nat->Bool} {held:Bool} {r:Reach}
theorem rl_open{t e:TypeId}{k:Nat}{v:Value}{d:DataW H}{p:List MemPlace}(ht:P.underlying t=some (.slice e))(hk:P.cellsOf e=k)(hk0:0<k)(hv:Value.okWide P W r b0 t v)(h:DataW.Trod enc P W base sp held t v d p) :
  ∃(A:Option Addr) (c:Nat) (rows:List (List Value)),v=.slice A rows.length c/\rows.length<=c/\c<=maxLen/\RL W W.heap.size k A rows.length rows.flatten/\∀row∈rows,row.length=k/\∃n y,DataW.trod enc P W base sp held n e row=some y:=by
 obtain⟨a,len,cap,rfl⟩:=okWide_slice ht hv;obtain⟨fuel,hf⟩:=h;rcases Go.Deep.open_slice ht hf with⟨hcs,_⟩|⟨ad,len',cap',m,n,D,Pl,hcs,_,hl,hm,hmm,_,hx⟩
 . simp[Value.cells] at hcs
   obtain⟨rfl,rfl,rfl⟩:=hcs;exact⟨none,0,[],rfl,jBb _,by unfold maxLen;omega,⟨by simp,λh=>absurd h (by simp)⟩,λrow hr=>by simp at hr⟩
 . simp[Value.cells] at hcs
   obtain⟨rfl,rfl,rfl⟩:=hcs;have hlm:len<=m:=by rw[hmm];split <;> omega
   have hex:∀i,∃cs:List Value,i<len->W.cells? base (ad.add (i*P.cellsOf e)) (P.cellsOf e)=some cs/\DataW.trod enc P W base sp held n e cs=some (D i,Pl i):=λi=>by
    by_cases hi:i<len
    . obtain⟨cs,h1,h2⟩:=hx i (by omega)
      exact⟨cs,λ_=>⟨h1,h2⟩⟩
    . exact⟨[],λh=>absurd h hi⟩
   obtain⟨f,hf⟩:=Classical.axiomOfChoice hex;have hrow:∀i,i<len->(f i).length=k/\∀j,j<k->W.cell? ((ad.add (i*k)).add j)=(f i)[j]?:=λi hi=>by
    obtain⟨_,h2,h3⟩:=World.cells?_some (hf i hi).1;rw[hk] at h2 h3;exact⟨h2,h3⟩
   have hlen:((List.range len).map f).length=len:=by simp
   have hall:∀m,m<=len->(((List.range m).map f).flatten).length=m*k:=λm hm=>by
    induction m with
    | zero=>simp
    | succ m ih=>rw[kR,jGa,List.flatten_append,yG,ih (by omega)];simp[(hrow m (by omega)).1,kIa]
   have hget:∀m,m<=len->∀i j,i<m->j<k->(((List.range m).map f).flatten)[i*k+j]?=(f i)[j]?:=λm hm=>by
    induction m with
    | zero=>intro i j hi;omega
    | succ m ih =>
      intro i j hi hj;rw[kR,jGa,List.flatten_append];by_cases him:i=m
      . subst him
        rw[jOa (by rw[hall i (by omega)];exact Nat.le_add_right _ _),hall i (by omega)];simp
      . have:i*k+j<m*k:=by
          have h1:(i+1)*k<=m*k:=jSb _ (by omega);rw[kIa] at h1;exact jZa (Nat.add_lt_add_left hj _) h1
        rw[jHa (by rw[hall m (by omega)];exact this)];exact ih (by omega) i j (by omega) hj
   refine⟨some ad,cap,(List.range len).map f,by rw[hlen],by rw[hlen];exact hl,hm,?_,?_⟩
   . rw[hlen]
     refine⟨hall len (jBb _),λh0=>?_⟩;obtain⟨b,o,spot⟩:=ad;have h00:=(hrow 0 h0).2 0 hk0;have hsome:(f 0)[0]?=some ((f 0)[0]'(by rw[(hrow 0 h0).1];exact hk0)):=yA _;rw[hsome] at h00;have hspot:spot=none:=by simpa[Addr.add] using World.cell?_spot h00
     subst hspot;have hbs:b<W.heap.size:=by
      have h1:=h00;simp only[Addr.add,kWa,jEb] at h1;unfold World.cell? at h1;cases hb:W.heap[b]? with
      | none=>rw[hb] at h1;cases h1
      | some ob=>exact (jDa.1 hb).1
     refine⟨b,o,rfl,hbs,λq hq=>?_⟩;have hqd:q=q/k*k+q%k:=by rw[Nat.mul_comm];exact (Nat.div_add_mod q k).symm
     have hqk:q%k<k:=Nat.mod_lt _ hk0;have hql:q/k<len:=Nat.div_lt_of_lt_mul (by rw[Nat.mul_comm];exact hq);have h1:=(hrow (q/k) hql).2 (q%k) hqk;have hadd:((⟨b,o,none⟩:Addr).add (q/k*k)).add (q%k)=⟨b,o+q,none⟩:=by
      rw[add_of_add,<- hqd];unfold Addr.add;by_cases h0:q=0 <;> simp[h0]
     rw[hadd] at h1;rw[h1,<- hget len (jBb _) (q/k) (q%k) hql hqk,<- hqd]
   . intro row hr
     obtain⟨i,hi,rfl⟩:=jF.1 hr;have hi':i<len:=jVb.1 hi;exact⟨(hrow i hi').1,_,_,(hf i hi').2⟩
theorem rows_map{α:Type}{f:α->List Value}{Q:α->Prop}:∀{rows:List (List Value)},(∀row∈rows,∃a,row=f a/\Q a)->∃l:List α,rows=l.map f/\∀a∈l,Q a
 | [],_=>⟨[],rfl,λ_ h=>by simp at h⟩
 | row::rows,h=>by
   obtain⟨l,hl,hq⟩:=rows_map (rows:=rows) (λr hr=>h r (kJa _ hr));obtain⟨a,ha,hqa⟩:=h row (by simp);exact⟨a::l,by rw[ha,hl];rfl,λx hx=>by rcases jBa.1 hx with rfl|hx;exact hqa;exact hq x hx⟩
end
end
section
open Go.ChangeShapes Go.WideShapes Go.ChangeAt Go.RowKit
def Keeps(S:Nat->Prop)(A B:World):Prop:=A.heap.size<=B.heap.size/\∀b,S b->B.heap[b]?=A.heap[b]?
theorem Keeps.refl(S:Nat->Prop)(A:World):Keeps S A A:=⟨jBb _,λ_ _=>rfl⟩
theorem Keeps.trans{S:Nat->Prop}{A B C:World}(h:Keeps S A B)(k:Keeps S B C):Keeps S A C:=⟨jFb h.1 k.1,λb hb=>(k.2 b hb).trans (h.2 b hb)⟩
theorem Keeps.sub{S T:Nat->Prop}{A B:World}(h:Keeps S A B)(k:∀b,T b->S b):Keeps T A B:=⟨h.1,λb hb=>h.2 b (k b hb)⟩
theorem Keeps.of_below{S:Nat->Prop}{n:Nat}{A B:World}(h:Below n A B)(hs:∀b,S b->b<n):Keeps S A B:=⟨h.size,λb hb=>h.block b (hs b hb)⟩
def Stays(K S:Nat->Prop)(W W':World):Prop:=(∀b,K b->S b)/\∀b,S b->K b\/(W.heap.size<=b/\b<W'.heap.size)
def Iter{α:Type}(P:Program)(g:Nat)(lb:Array Value)(encs:α->Array Value)(K:Nat->Prop)(xs:List α)(w:World):Prop :=
 ∀(l:Nat) (J Jx:(Nat->Prop)->List α->World->Prop) (W:World),Keeps K w W->(∀S,OwnFrom W.heap.size (J S))->(∀S,OwnFrom W.heap.size (Jx S)) ->
   (∀S pre x suf W1,xs=pre++x::suf->J S pre W1->YieldAt Fence.wide 0 P l (encs x) W1 λe W'=>(e=.returned (.bool true)/\J S (pre++[x]) W'/\Keeps S W1 W')\/(e=.returned (.bool false)/\Jx S (pre++[x]) W'/\Keeps S W1 W')) ->
   (∀S W',Below W.heap.size W W'->Stays K S W W'->J S [] W') ->
   CallsIn Fence.wide 0 P g (#[.func (.yield l) #[] #[]]++lb) W λe W'=>(∃v,e=.returned v)/\∃S,Stays K S W W'/\(J S xs W'\/∃pre,pre <+: xs/\Jx S pre W')
theorem Stays.putObj{K S:Nat->Prop}{w W:World}(h:Stays K S w W)(r:Nat)(o:Obj):Stays K S w (W.putObj r o):=⟨h.1,λb hb=>by rw[World.putObj_size];exact h.2 b hb⟩
theorem stays_in{K K' S:Nat->Prop}{w w' W:World}(h:Stays K' S w' W)(hs:w.heap.size<=w'.heap.size)(h1:∀b,K b->K' b)(h2:∀b,K' b->K b\/w.heap.size<=b)(h3:∀b,K' b->b<w'.heap.size)(h4:w'.heap.size<=W.heap.size):Stays K S w W :=
 ⟨λb hb=>h.1 b (h1 b hb),λb hb=>by
   rcases h.2 b hb with h5|h5
   . exact (h2 b h5).imp_right λh6=>⟨h6,by have:=h3 b h5;omega⟩
   . exact .inr ⟨by omega,h5.2⟩⟩
theorem RoundIn.wide{m m':Nat}{P:Program}{l:Nat}{f:FuncId}{tmps:Array Value}{assign body:Code}{w:World}{R:Ending->World->Prop}
 (h:RoundIn Fence.wide m P l f tmps assign body w R):RoundIn Fence.wide m' P l f tmps assign body w R:=⟨h.1,λc cs _=>h.2 c cs (room_wide _)⟩
theorem YieldAt.wide{m:Nat}(m':Nat){P:Program}{l:Nat}{args:Array Value}{W:World}{R:Ending->World->Prop}(h:YieldAt Fence.wide m P l args W R):YieldAt Fence.wide m' P l args W R:=by
 obtain⟨fn,tmps,assign,body,hy,hR⟩:=h;exact⟨fn,tmps,assign,body,hy,RoundIn.wide hR⟩
theorem wide_calls{m m':Nat}{P:Program}{f:FuncId}{args:Array Value}{w:World}{R:Ending->World->Prop}(h:CallsIn Fence.wide m P f args w R):CallsIn Fence.wide m' P f args w R:=⟨h.1,λcs _=>h.2 cs (room_wide _)⟩
theorem Iter.mono{α:Type}{P:Program}{g:Nat}{lb:Array Value}{encs:α->Array Value}{K K':Nat->Prop}{xs:List α}{w w':World}(h:Iter P g lb encs K xs w)(hK:∀b,K b->K' b)(hw:Keeps K w w') :
  Iter P g lb encs K' xs w':=by
 intro l J Jx W hk hJ hJx hY h0;refine (h l (λS=>J (λb=>S b\/K' b)) (λS=>Jx (λb=>S b\/K' b)) W (hw.trans (hk.sub hK)) (λS=>hJ _) (λS=>hJx _) ?_ ?_).mono ?_
 . intro S pre x suf W1 hxs hj
   refine (hY (λb=>S b\/K' b) pre x suf W1 hxs hj).mono ?_;rintro e W2 (⟨he,hj2,hk2⟩|hx)
   . exact .inl ⟨he,hj2,hk2.sub λb hb=>.inl hb⟩
   . exact .inr ⟨hx.1,hx.2.1,hx.2.2.sub λb hb=>.inl hb⟩
 . intro S W' hb hs
   exact h0 _ W' hb ⟨λb hb'=>.inr hb',λb hb'=>hb'.elim (λh1=>(hs.2 b h1).imp_left (hK b)) .inl⟩
 . rintro e W2 ⟨hv,S,hs,hj⟩
   exact⟨hv,λb=>S b\/K' b,⟨λb hb'=>.inr hb',λb hb'=>hb'.elim (λh1=>(hs.2 b h1).imp_left (hK b)) .inl⟩,hj⟩
theorem ownFrom_keeps{β:Type}{B:Nat}{K:Nat->Prop}{w:World}(hK:∀b,K b->b<w.heap.size/\b<B):OwnFrom B (λ(_:β) W=>Keeps K w W):=by
 intro _ X Y row hs hg hr;refine⟨jFb hs.1 hg.size,λb hb=>(hg.block b (jZa (hK b hb).1 hs.1) (λe=>?_)).trans (hs.2 b hb)⟩;have h1:=(hr b e.symm).1;have h2:=(hK b hb).2;omega
theorem wpIn_at_zero{F:Fence}{n:Nat}{P:Program}{o:Oper}{l:List Oper}{h:0<(o::l).toArray.size}{a:Act}{w:World}{K:Act->World->Prop}{Q:Exit->Act->World->Prop}:Oper.wpIn F n P ((o::l).toArray[0]'h) a w K Q=Oper.wpIn F n P o a w K Q:=rfl
theorem wpIn_at_succ{F:Fence}{n m:Nat}{P:Program}{o:Oper}{l:List Oper}{h:m+1<(o::l).toArray.size}{a:Act}{w:World}{K:Act->World->Prop}{Q:Exit->Act->World->Prop}:Oper.wpIn F n P ((o::l).toArray[m+1]'h) a w K Q=Oper.wpIn F n P (l.toArray[m]'(by simpa using h)) a w K Q:=rfl
theorem Keeps.alloc{S:Nat->Prop}{A B:World}(h:Keeps S A B)(hs:∀b,S b->b<A.heap.size)(o:Obj):Keeps S A (B.alloc o) :=
 h.trans ⟨by simp,λb hb=>Below.heap_alloc B o b (jZa (hs b hb) h.1)⟩
theorem Keeps.setCell{S:Nat->Prop}{A B:World}(h:Keeps S A B){p:Addr}(hp:¬S p.block)(u:Value):Keeps S A (B.setCell p u) :=
 h.trans ⟨by simp[World.setCell],λb hb=>Below.heap_setCell B p u b (λe=>hp (e ▸ hb))⟩
theorem wide_call{n:Nat}{P:Program}{f:FuncId}{args:Array Value}{w:World}{R R':Ending->World->Prop}(h:Calls P f args w R)(k:∀e w',R e w'->R' e w') :
 Fence.wide.fn f/\Fence.wide.depth=none/\CallsIn Fence.wide n P f args w R':=⟨trivial,rfl,(callsIn_wide.2 h).mono k⟩
def roundEnd{α:Type}(S:Nat->Prop)(I:List α->World->Prop)(Ix:Code->List α->World->Prop)(xs:List α)(W:World):Exit->Act->World->Prop
 | .normal,_,W'=>Keeps S W W'/\I xs W'
 | .ret,_,W'=>Keeps S W W'/\Ix .ret xs W'
 | .exit id,_,W'=>Keeps S W W'/\Ix (.exit id) xs W'
 | .goto t,_,W'=>Keeps S W W'/\Ix (.goto t) xs W'
 | .panic _,_,_=>False
 | .outgrown,_,_=>False
theorem rangeFunc_law{α:Type}{P:Program}{n:Nat}{g:Operand}{ps:Array Tmp}{assign body:Code}{Q:Exit->Act->World->Prop}{a:Act}{w:World}
  {gf:Nat}{lb:Array Value}(hg:a.eval g=.func (.func gf) #[] lb)(eg:∀args w,(callFunc gf args).run P w=.ok (.enter gf args) w)
  {encs:α->Array Value}{K:Nat->Prop}{xs:List α}{w0:World}(hit:Iter P gf lb encs K xs w0)(h0:Keeps K w0 w)(hK:∀b,K b->b<w.heap.size)(hps:∀x,(encs x).size=ps.size)
  (I:(Nat->Prop)->List α->World->Prop)(Ix:(Nat->Prop)->Code->List α->World->Prop)(hI:∀S,OwnFrom w.heap.size (I S))(hIx:∀S c,OwnFrom w.heap.size (Ix S c))
  (hstart:∀S W',Below w.heap.size w W'->Stays K S w W'->I S [] W')(Ax:α->Act->World->Prop)(hAx:∀x a',OwnFrom w.heap.size (λ(_:Unit) W=>Ax x a' W))
  (hassign:∀(l:Nat) (S:Nat->Prop) (pre:List α) (x:α) (suf:List α) (W:World) (K':Act->World->Prop),xs=pre++x::suf->(∀b,S b->b<W.heap.size)->(∀b,K b->S b)->I S pre W ->
    (∀a' W',Keeps S W W'->I S pre W'->Ax x a' W'->K' a' W') ->
    assign.wpIn (Fence.wide.inRound l) n P (Exit.then K' (λ_ _ _=>False)) { tmps:=(ps.zip (encs x)).foldl (λt (p,v)=>t.setIfInBounds p v) a.tmps,defers:=[] } W)
  (hbody:∀(l:Nat) (S:Nat->Prop) (pre:List α) (x:α) (suf:List α) (a':Act) (W:World),xs=pre++x::suf->(∀b,S b->b<W.heap.size)->(∀b,K b->S b)->I S pre W->Ax x a' W->body.wpIn (Fence.wide.inRound l) n P (roundEnd S (I S) (Ix S) (pre++[x]) W) a' W)
  (hdone:∀(D:Nat) (S:Nat->Prop) (W:World),w.heap.size<=D->Stays K S w W->I S xs W->W.heap[D]?=some (.deferred (some []))->Q .normal { a with defers:={ target:=.collected D,args := #[] }::a.defers } W)
  (hstop:∀(D:Nat) (S:Nat->Prop) (c:Code) (pre:List α) (W:World),w.heap.size<=D->Stays K S w W->pre <+: xs->Ix S c pre W->W.heap[D]?=some (.deferred (some []))->c.wpIn Fence.wide n P Q { a with defers:={ target:=.collected D,args := #[] }::a.defers } W) :
  (Code.rangeFunc g ps assign body).wpIn Fence.wide n P Q a w:=by
 refine wpIn_rangeFunc λfn _=>?_
 generalize hrec:(λst pe=>({ state:=st,pending:=pe,fn,tmps:=a.tmps,params:=ps,assign,body,defers:=w.heap.size }:Loop))=rec;have hp:∀st pe,(rec st pe).params=ps/\(rec st pe).state=st/\(rec st pe).pending=pe/\(rec st pe).fn=fn/\(rec st pe).assign=assign/\(rec st pe).body=body/\(rec st pe).tmps=a.tmps:=λst pe=>by
  rw[<- hrec];exact⟨rfl,rfl,rfl,rfl,rfl,rfl,rfl⟩
 have hturn:∀st pe st',{ rec st pe with state:=st' }=rec st' pe:=λst pe st'=>by rw[<- hrec]
 have hturn2:∀st pe st' pe',{ rec st pe with state:=st',pending:=pe' }=rec st' pe':=λst pe st' pe'=>by rw[<- hrec]
 have henter:(Instr.enterLoop fn a.tmps ps assign body Fence.wide.round).run P w=.ok (w.heap.size+1,[{ target:=.collected w.heap.size,args := #[] }]) ((w.alloc (.deferred (some []))).alloc (.loop (rec .ready none))):=by
  rw[<- hrec];exact run_enterLoop_outer _ _ _ _ _
 generalize hW1:(w.alloc (.deferred (some []))).alloc (.loop (rec .ready none))=W1 at henter;have hz:W1.heap.size=w.heap.size+2:=by rw[<- hW1];simp
 have hL1:W1.heap[w.heap.size+1]?=some (.loop (rec .ready none)):=by
  rw[<- hW1];have:=World.alloc_heap_new (w.alloc (.deferred (some []))) (.loop (rec .ready none));rwa [World.size_alloc] at this
 have hD1:W1.heap[w.heap.size]?=some (.deferred (some [])):=by
  rw[<- hW1];exact (Below.heap_alloc _ _ _ (by simp)).trans (World.alloc_heap_new w _)
 have hb1:Below w.heap.size w W1:=by rw[<- hW1];exact ((Below.refl _ w).alloc (jBb _) _).alloc (by simp) _
 refine⟨w.heap.size+1,[{ target:=.collected w.heap.size,args := #[] }],W1,{ target:=.fn (.func gf) lb,args := #[.func (.yield (w.heap.size+1)) #[] #[]] },W1,gf,
  #[.func (.yield (w.heap.size+1)) #[] #[]]++lb,W1,henter,?_,λ_ _=>trivial,?_,λh=>by simp[Fence.wide] at h,?_⟩
 . simp only[resolve,hg]
   simp[go_sem]
 . simp[invoke,go_sem,eg]
 ·
   let T:(Nat->Prop)->Nat->Prop:=λS b=>S b\/b=w.heap.size\/b=w.heap.size+1
   have hlw:∀{S:Nat->Prop} {W W':World},(∀b,S b->b<W.heap.size)->W.heap.size<=W'.heap.size->∀b,S b->b<W'.heap.size:=λh k b hb=>jZa (h b hb) k
   refine wide_calls ((hit (w.heap.size+1)
    (λS pre W=>(∀b,S b->b<W.heap.size)/\Stays K S W1 W/\I (T S) pre W/\W.heap[w.heap.size+1]?=some (.loop (rec .ready none))/\W.heap[w.heap.size]?=some (.deferred (some [])))
    (λS pre W=>Stays K S W1 W/\∃c,Ix (T S) c pre W/\W.heap[w.heap.size+1]?=some (.loop (rec .done (some c)))/\W.heap[w.heap.size]?=some (.deferred (some [])))
    W1 (h0.trans (Keeps.of_below hb1 hK)) ?_ ?_ ?_ ?_).mono ?_)
   . rintro S pre A B row ⟨h1,h2,h3,h4,h5⟩ hgr hr
     have hsz:=hgr.size;refine⟨hlw h1 hsz,⟨h2.1,λb hb=>(h2.2 b hb).imp_right λh=>⟨h.1,by omega⟩⟩,hI _ pre A B row h3 hgr (λr e=>⟨by have:=(hr r e).1;omega,(hr r e).2⟩),(hgr.block _ (jDa.1 h4).1 (λe=>?_)).trans h4,(hgr.block _ (jDa.1 h5).1 (λe=>?_)).trans h5⟩
     . have:=(hr _ e.symm).1;omega
     . have:=(hr _ e.symm).1;omega
   . rintro S pre A B row ⟨h2,c,h3,h4,h5⟩ hgr hr
     have hsz:=hgr.size;refine⟨⟨h2.1,λb hb=>(h2.2 b hb).imp_right λh=>⟨h.1,by omega⟩⟩,c,hIx _ c pre A B row h3 hgr (λr e=>⟨by have:=(hr r e).1;omega,(hr r e).2⟩),(hgr.block _ (jDa.1 h4).1 (λe=>?_)).trans h4,(hgr.block _ (jDa.1 h5).1 (λe=>?_)).trans h5⟩
     . have:=(hr _ e.symm).1;omega
     . have:=(hr _ e.symm).1;omega
   ·
     rintro S pre x suf W0 hxs ⟨h1',h2',h3',h4',h5'⟩;have hlt':w.heap.size+1<W0.heap.size:=(jDa.1 h4').1;have hy:=run_yield (P:=P) (args:=encs x) h4' (by rw[(hp _ _).1];exact hps x);obtain⟨p1,p2,p3,p4,p5,p6,p7⟩:=hp .ready none;rw[p1,p4,p5,p6,p7] at hy;have hTl:∀b,T S b->b<W0.heap.size:=λb hb=>by
      rcases hb with hb|rfl|rfl
      . exact h1' b hb
      . omega
      . omega
     refine⟨fn,_,assign,body,hy,RoundIn.wide (roundIn_of_wpIn (n:=n) trivial (hassign _ (T S) pre x suf W0 _ hxs hTl (λb hb=>.inl (h2'.1 b hb)) h3' ?_))⟩;intro a' W hka hia hax;have hkS:Keeps S W0 W:=hka.sub λb hb=>.inl hb
     have h4:=(hka.2 _ (.inr (.inr rfl))).trans h4';have h5:=(hka.2 _ (.inr (.inl rfl))).trans h5';have h1:∀b,S b->b<W.heap.size:=hlw h1' hka.1;have h2:Stays K S W1 W:=⟨h2'.1,λb hb=>(h2'.2 b hb).imp_right λh=>⟨h.1,by have:=hka.1;omega⟩⟩;have hlt:w.heap.size+1<W.heap.size:=by have:=hka.1;omega
     refine⟨_,run_beginRound h4 p2,?_⟩;rw[hturn];have hl2:(W.putObj (w.heap.size+1) (.loop (rec .busy none))).heap[w.heap.size+1]?=some (.loop (rec .busy none)):=World.putObj_heap_same hlt;have hd2:(W.putObj (w.heap.size+1) (.loop (rec .busy none))).heap[w.heap.size]?=some (.deferred (some [])):=(World.putObj_heap_other (by omega)).trans h5;have hnS:¬S (w.heap.size+1):=λhs=>by
      rcases h2.2 _ hs with h|h
      . have:=hK _ h;omega
      . omega
     have hi2:I (T S) pre (W.putObj (w.heap.size+1) (.loop (rec .busy none))):=(hI _).putObj _ hia (by omega) h4 rfl;have hax2:Ax x a' (W.putObj (w.heap.size+1) (.loop (rec .busy none))):=(hAx x a').putObj (s:=()) _ hax (by omega) h4 rfl;refine wpIn_mono (hbody _ (T S) pre x suf _ _ hxs (λb hb=>?_) (λb hb=>.inl (h2.1 b hb)) hi2 hax2) ?_
     . rw[World.putObj_size]
       rcases hb with hb|rfl|rfl
       . exact h1 b hb
       . omega
       . omega
     have fin:∀(jump:Option Code) (W3:World),Keeps (T S) (W.putObj (w.heap.size+1) (.loop (rec .busy none))) W3 ->
       (Instr.endRound (w.heap.size+1) jump).run P W3=.ok (.bool jump.isNone) (W3.putObj (w.heap.size+1) (.loop (rec (if jump.isNone then .ready else .done) jump))) /\
       W3.heap[w.heap.size+1]?=some (.loop (rec .busy none)) /\
       (W3.putObj (w.heap.size+1) (.loop (rec (if jump.isNone then .ready else .done) jump))).heap[w.heap.size+1]?=some (.loop (rec (if jump.isNone then .ready else .done) jump)) /\
       (W3.putObj (w.heap.size+1) (.loop (rec (if jump.isNone then .ready else .done) jump))).heap[w.heap.size]?=some (.deferred (some [])) /\
       W.heap.size<=W3.heap.size/\Keeps S W0 (W3.putObj (w.heap.size+1) (.loop (rec (if jump.isNone then .ready else .done) jump))):=λjump W3 hk3=>by
      have hl3:=(hk3.2 _ (.inr (.inr rfl))).trans hl2;have hd3:=(hk3.2 _ (.inr (.inl rfl))).trans hd2;have hs3:=hk3.1;rw[World.putObj_size] at hs3;have he:=run_endRound (P:=P) jump hl3;rw[hturn2] at he;refine⟨he,hl3,World.putObj_heap_same (by omega),(World.putObj_heap_other (by omega)).trans hd3,hs3,hkS.trans ⟨by rw[World.putObj_size];exact hs3,λb hb=>?_⟩⟩;have hne:b≠w.heap.size+1:=λe=>hnS (e ▸ hb)
      exact (World.putObj_heap_other hne).trans ((hk3.2 b (.inl hb)).trans (World.putObj_heap_other hne))
     have stay:∀{W3:World},W.heap.size<=W3.heap.size->Stays K S W1 W3:=λhs=>⟨h2.1,λb hb=>(h2.2 b hb).imp_right λh=>⟨h.1,by omega⟩⟩
     rintro e a3 W3 hpst;cases e with
     | normal =>
       obtain⟨hk3,hi3⟩:=hpst;obtain⟨hr,hl3,hl4,hd4,hs4,hks⟩:=fin none W3 hk3;exact⟨_,_,hr,.inl ⟨rfl,⟨hlw h1 (by rw[World.putObj_size];exact hs4),stay (by rw[World.putObj_size];exact hs4),(hI _).putObj _ hi3 (by omega) hl3 rfl,hl4,hd4⟩,hks⟩⟩
     | ret =>
       obtain⟨hk3,hi3⟩:=hpst;obtain⟨hr,hl3,hl4,hd4,hs4,hks⟩:=fin (some .ret) W3 hk3;exact⟨_,_,hr,.inr ⟨rfl,⟨stay (by rw[World.putObj_size];exact hs4),.ret,(hIx _ _).putObj _ hi3 (by omega) hl3 rfl,hl4,hd4⟩,hks⟩⟩
     | exit id =>
       obtain⟨hk3,hi3⟩:=hpst;obtain⟨hr,hl3,hl4,hd4,hs4,hks⟩:=fin (some (.exit id)) W3 hk3;exact⟨_,_,hr,.inr ⟨rfl,⟨stay (by rw[World.putObj_size];exact hs4),.exit id,(hIx _ _).putObj _ hi3 (by omega) hl3 rfl,hl4,hd4⟩,hks⟩⟩
     | goto t =>
       obtain⟨hk3,hi3⟩:=hpst;obtain⟨hr,hl3,hl4,hd4,hs4,hks⟩:=fin (some (.goto t)) W3 hk3;exact⟨_,_,hr,.inr ⟨rfl,⟨stay (by rw[World.putObj_size];exact hs4),.goto t,(hIx _ _).putObj _ hi3 (by omega) hl3 rfl,hl4,hd4⟩,hks⟩⟩
     | panic ch=>exact hpst.elim
     | outgrown=>exact hpst.elim
   ·
     intro S W' hb hst;have hl':=(hb.block (w.heap.size+1) (by omega)).trans hL1;have hd':=(hb.block w.heap.size (by omega)).trans hD1;have hlt:∀b,S b->b<W'.heap.size:=λb hb'=>by
      rcases hst.2 b hb' with h|h
      . have:=hK b h;have:=hb.size;omega
      . exact h.2
     refine⟨hlt,hst,hstart (T S) W' (hb1.trans (hb.mono (by omega))) ⟨λb hb'=>.inl (hst.1 b hb'),λb hb'=>?_⟩,hl',hd'⟩
     have:=hb.size;rcases hb' with h|rfl|rfl
     . exact (hst.2 b h).imp_right λh=>⟨by omega,h.2⟩
     . exact .inr ⟨by omega,by omega⟩
     . exact .inr ⟨by omega,by omega⟩
   ·
     have hT:∀{S:Nat->Prop} {W:World} {r:Loop} {ob:Obj},Stays K S W1 W->W.heap[w.heap.size+1]?=some (.loop r)->Stays K (T S) w (W.putObj (w.heap.size+1) ob):=λh hl=>by
      have hlt:=(jDa.1 hl).1;refine⟨λb hb=>.inl (h.1 b hb),λb hb=>?_⟩;rw[World.putObj_size];rcases hb with hb|rfl|rfl
      . exact (h.2 b hb).imp_right λh=>⟨by omega,h.2⟩
      . exact .inr ⟨by omega,by omega⟩
      . exact .inr ⟨by omega,by omega⟩
     rintro e W2 ⟨⟨v,rfl⟩,S,hst,(⟨_,_,hi,hl,hd⟩|⟨pre,hpre,_,c,hi,hl,hd⟩)⟩
     . have he:=run_endLoop (P:=P) hl (by rw[(hp _ _).2.1];simp)
       rw[hturn,(hp _ _).2.2.1] at he;exact⟨none,_,he,hdone _ (T S) _ (jBb _) (hT hst hl) ((hI _).putObj _ hi (by omega) hl rfl) ((World.putObj_heap_other (by omega)).trans hd)⟩
     . have he:=run_endLoop (P:=P) hl (by rw[(hp _ _).2.1];simp)
       rw[hturn,(hp _ _).2.2.1] at he;exact⟨some c,_,he,hstop _ (T S) c pre _ (jBb _) (hT hst hl) hpre ((hIx _ c).putObj _ hi (by omega) hl rfl) ((World.putObj_heap_other (by omega)).trans hd)⟩
end
section
open Go.ChangeShapes Go.WideShapes Go.ChangeAt Go.RowKit
end
end Go.Proofs.YtidamcdklgfogaaGreat
