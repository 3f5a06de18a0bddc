import Derived.Test.YtidamcdklgfogaaGreatDoorUab
import GoSem.ClaimSeven
import Derived.LaidByTextLater
import Derived.SevenTiedAt
import Derived.LaidSub
import Derived.LaidOnce
set_option linter.unusedVariables false
set_option linter.unusedSimpArgs false
namespace Go.Proofs.YtidamcdklgfogaaGreatDoor
section
open Go.RowKit
class Ag (T:TypeId) (b:outParam Bool):Prop where o:Ze Tryz.prog T=some b
class Sz (T:TypeId) (n:outParam Nat):Prop where o:Km Tryz.prog T=some n
class Zv (T:TypeId) (z:outParam Value):Prop where o:zeroB Tryz.prog T=some z
instance:Ag 105 (false):=⟨by kernel_rfl⟩
instance:Ag 106 (false):=⟨by kernel_rfl⟩
instance:Ag 107 (false):=⟨by kernel_rfl⟩
instance:Ag 111 (false):=⟨by kernel_rfl⟩
instance:Ag 114 (false):=⟨by kernel_rfl⟩
instance:Ag 146 (true):=⟨by kernel_rfl⟩
instance:Ag 147 (false):=⟨by kernel_rfl⟩
instance:Ag 150 (false):=⟨by kernel_rfl⟩
instance:Ag 151 (false):=⟨by kernel_rfl⟩
instance:Ag 152 (false):=⟨by kernel_rfl⟩
instance:Ag 157 (false):=⟨by kernel_rfl⟩
instance:Ag 162 (true):=⟨by kernel_rfl⟩
instance:Ag 164 (true):=⟨by kernel_rfl⟩
instance:Ag 165 (false):=⟨by kernel_rfl⟩
instance:Ag 183 (false):=⟨by kernel_rfl⟩
instance:Ag 196 (false):=⟨by kernel_rfl⟩
instance:Ag 203 (true):=⟨by kernel_rfl⟩
instance:Ag 209 (false):=⟨by kernel_rfl⟩
instance:Ag 219 (true):=⟨by kernel_rfl⟩
instance:Ag 23 (false):=⟨by kernel_rfl⟩
instance:Ag 24 (false):=⟨by kernel_rfl⟩
instance:Ag 25 (false):=⟨by kernel_rfl⟩
instance:Ag 3 (false):=⟨by kernel_rfl⟩
instance:Ag 36 (false):=⟨by kernel_rfl⟩
instance:Ag 4 (false):=⟨by kernel_rfl⟩
instance:Ag 40 (false):=⟨by kernel_rfl⟩
instance:Ag 57 (false):=⟨by kernel_rfl⟩
instance:Ag 63 (true):=⟨by kernel_rfl⟩
instance:Ag 67 (false):=⟨by kernel_rfl⟩
instance:Ag 68 (false):=⟨by kernel_rfl⟩
instance:Ag 80 (true):=⟨by kernel_rfl⟩
instance:Ag 9 (false):=⟨by kernel_rfl⟩
instance:Ag 93 (false):=⟨by kernel_rfl⟩
instance:Ag 94 (false):=⟨by kernel_rfl⟩
instance:Ag 95 (false):=⟨by kernel_rfl⟩
instance:Ag 96 (false):=⟨by kernel_rfl⟩
instance:Sz 111 (1):=⟨by kernel_rfl⟩
instance:Sz 146 (5):=⟨by kernel_rfl⟩
instance:Sz 147 (1):=⟨by kernel_rfl⟩
instance:Sz 157 (1):=⟨by kernel_rfl⟩
instance:Sz 162 (5):=⟨by kernel_rfl⟩
instance:Sz 164 (9):=⟨by kernel_rfl⟩
instance:Sz 196 (1):=⟨by kernel_rfl⟩
instance:Sz 203 (2):=⟨by kernel_rfl⟩
instance:Sz 219 (4):=⟨by kernel_rfl⟩
instance:Sz 23 (1):=⟨by kernel_rfl⟩
instance:Sz 24 (1):=⟨by kernel_rfl⟩
instance:Sz 3 (1):=⟨by kernel_rfl⟩
instance:Sz 36 (1):=⟨by kernel_rfl⟩
instance:Sz 4 (1):=⟨by kernel_rfl⟩
instance:Sz 57 (1):=⟨by kernel_rfl⟩
instance:Sz 63 (3):=⟨by kernel_rfl⟩
instance:Sz 67 (1):=⟨by kernel_rfl⟩
instance:Sz 68 (1):=⟨by kernel_rfl⟩
instance:Sz 80 (3):=⟨by kernel_rfl⟩
instance:Sz 94 (1):=⟨by kernel_rfl⟩
instance:Sz 95 (1):=⟨by kernel_rfl⟩
instance:Sz 96 (1):=⟨by kernel_rfl⟩
instance:Zv 111 ((.slice none 0 0)):=⟨by kernel_rfl⟩
instance:Zv 146 ((.agg #[.int .i64 0,.bool false,.int .i64 0,.int .i64 0,.int .i64 0])):=⟨by kernel_rfl⟩
instance:Zv 157 ((.slice none 0 0)):=⟨by kernel_rfl⟩
instance:Zv 162 ((.agg #[.int .i64 0,.int .i64 0,.int .i64 0,.int .i64 0,.int .i64 0])):=⟨by kernel_rfl⟩
instance:Zv 164 ((.agg #[.int .i64 0,.int .i64 0,.int .i64 0,.int .i64 0,.int .i64 0,.int .i64 0,.int .i64 0,.int .i64 0,.int .i64 0])):=⟨by kernel_rfl⟩
instance:Zv 196 ((.slice none 0 0)):=⟨by kernel_rfl⟩
instance:Zv 203 ((.agg #[.int .i64 0,.int .i64 0])):=⟨by kernel_rfl⟩
instance:Zv 219 ((.agg #[.int .i64 0,.int .i64 0,.int .i64 0,.int .i64 0])):=⟨by kernel_rfl⟩
instance:Zv 23 ((.slice none 0 0)):=⟨by kernel_rfl⟩
instance:Zv 24 ((.slice none 0 0)):=⟨by kernel_rfl⟩
instance:Zv 3 ((.int .i64 0)):=⟨by kernel_rfl⟩
instance:Zv 4 ((.bool false)):=⟨by kernel_rfl⟩
instance:Zv 63 ((.agg #[.int .i64 0,.int .i64 0,.int .i64 0])):=⟨by kernel_rfl⟩
instance:Zv 70 ((.agg #[.pointer none,.slice none 0 0])):=⟨by kernel_rfl⟩
instance:Zv 80 ((.agg #[.int .i64 0,.int .i64 0,.int .i64 0])):=⟨by kernel_rfl⟩
instance:Zv 94 ((.map none)):=⟨by kernel_rfl⟩
instance:Zv 95 ((.nilFunc)):=⟨by kernel_rfl⟩
instance:Zv 96 ((.int .i64 0)):=⟨by kernel_rfl⟩
theorem aL {R G:Prop} (r:R) (h:R->G:=by first|(intro r;(with_reducible refine Kh ?_);(with_reducible refine Qp ?_);(first|(refine ld1 0 hS rfl rfl ?ha rfl rfl rfl ?_;(case ha=>exact Eq.trans Ag.o rfl))|(refine ld1 1 hS rfl rfl ?ha rfl rfl rfl ?_;(case ha=>exact Eq.trans Ag.o rfl))|(refine ld1 2 hS rfl rfl ?ha rfl rfl rfl ?_;(case ha=>exact Eq.trans Ag.o rfl))|(refine ld1 3 hS rfl rfl ?ha rfl rfl rfl ?_;(case ha=>exact Eq.trans Ag.o rfl))|(refine ld1 4 hS rfl rfl ?ha rfl rfl rfl ?_;(case ha=>exact Eq.trans Ag.o rfl))|(refine ld1 5 hS rfl rfl ?ha rfl rfl rfl ?_;(case ha=>exact Eq.trans Ag.o rfl))|(refine ld1 6 hS rfl rfl ?ha rfl rfl rfl ?_;(case ha=>exact Eq.trans Ag.o rfl))|(refine ldN 0 hS rfl rfl ?ha rfl rfl ?hb ?_;(case ha=>exact Eq.trans Ag.o rfl);(case hb=>exact Eq.trans Sz.o rfl))|(refine ldN 1 hS rfl rfl ?ha rfl rfl ?hb ?_;(case ha=>exact Eq.trans Ag.o rfl);(case hb=>exact Eq.trans Sz.o rfl))|(refine ldN 2 hS rfl rfl ?ha rfl rfl ?hb ?_;(case ha=>exact Eq.trans Ag.o rfl);(case hb=>exact Eq.trans Sz.o rfl))|(refine ldN 3 hS rfl rfl ?ha rfl rfl ?hb ?_;(case ha=>exact Eq.trans Ag.o rfl);(case hb=>exact Eq.trans Sz.o rfl))|(refine ldN 4 hS rfl rfl ?ha rfl rfl ?hb ?_;(case ha=>exact Eq.trans Ag.o rfl);(case hb=>exact Eq.trans Sz.o rfl))|(refine ldN 5 hS rfl rfl ?ha rfl rfl ?hb ?_;(case ha=>exact Eq.trans Ag.o rfl);(case hb=>exact Eq.trans Sz.o rfl))|(refine ldN 6 hS rfl rfl ?ha rfl rfl ?hb ?_;(case ha=>exact Eq.trans Ag.o rfl);(case hb=>exact Eq.trans Sz.o rfl))|((refine' ldI1 (v:=_) hS rfl rfl ?ha rfl ?hb ?_);(case ha=>exact Eq.trans Ag.o rfl);(case hb=>assumption))|((refine' ldIN (vs:=_) hS rfl rfl ?ha rfl ?hc ?hb ?_);(case ha=>exact Eq.trans Ag.o rfl);(case hc=>assumption);(case hb=>exact Eq.trans Sz.o rfl)));(try simp only [Act.put,zE,zF,zG]);exact r)):G:=h r
theorem aS {R G:Prop} (r:R) (h:R->G:=by first|(intro r;(with_reducible refine Kh ?_);(with_reducible refine isStore ?_);(first|(refine st1 0 hS rfl rfl rfl rfl rfl ?ha rfl rfl ?hb ?_;(case ha=>exact Eq.trans Sz.o rfl);(case hb=>(simp;done)))|(refine st1 1 hS rfl rfl rfl rfl rfl ?ha rfl rfl ?hb ?_;(case ha=>exact Eq.trans Sz.o rfl);(case hb=>(simp;done)))|(refine st1 2 hS rfl rfl rfl rfl rfl ?ha rfl rfl ?hb ?_;(case ha=>exact Eq.trans Sz.o rfl);(case hb=>(simp;done)))|(refine st1 3 hS rfl rfl rfl rfl rfl ?ha rfl rfl ?hb ?_;(case ha=>exact Eq.trans Sz.o rfl);(case hb=>(simp;done)))|(refine st1 4 hS rfl rfl rfl rfl rfl ?ha rfl rfl ?hb ?_;(case ha=>exact Eq.trans Sz.o rfl);(case hb=>(simp;done)))|(refine st1 5 hS rfl rfl rfl rfl rfl ?ha rfl rfl ?hb ?_;(case ha=>exact Eq.trans Sz.o rfl);(case hb=>(simp;done)))|(refine st1 6 hS rfl rfl rfl rfl rfl ?ha rfl rfl ?hb ?_;(case ha=>exact Eq.trans Sz.o rfl);(case hb=>(simp;done)))|(refine stN 0 hS rfl rfl rfl rfl rfl ?ha rfl rfl ?_;(case ha=>exact Eq.trans Sz.o rfl))|(refine stN 1 hS rfl rfl rfl rfl rfl ?ha rfl rfl ?_;(case ha=>exact Eq.trans Sz.o rfl))|(refine stN 2 hS rfl rfl rfl rfl rfl ?ha rfl rfl ?_;(case ha=>exact Eq.trans Sz.o rfl))|(refine stN 3 hS rfl rfl rfl rfl rfl ?ha rfl rfl ?_;(case ha=>exact Eq.trans Sz.o rfl))|(refine stN 4 hS rfl rfl rfl rfl rfl ?ha rfl rfl ?_;(case ha=>exact Eq.trans Sz.o rfl))|(refine stN 5 hS rfl rfl rfl rfl rfl ?ha rfl rfl ?_;(case ha=>exact Eq.trans Sz.o rfl))|(refine stN 6 hS rfl rfl rfl rfl rfl ?ha rfl rfl ?_;(case ha=>exact Eq.trans Sz.o rfl)));intro w hS;(try simp only [zF,zG,zE,Act.eval,zD,zC,zA,zB,zJ,Value.cells] at hS);(try simp only [Act.put,zE,zF,zG]);revert w hS;exact r)):G:=h r
theorem aX {R G:Prop} (r:R) (h:R->G:=by first|(intro r;(with_reducible refine Kh ?_);(first|((with_reducible refine isBox ?_);refine bx hS rfl rfl rfl ?_)|((with_reducible refine isAlloc ?_);(refine' al (z:=_) hS rfl rfl ?ha ?_);(case ha=>exact Zv.o)));intro X w hS;(try simp only [Act.eval,zD,zC,zA,zB,zJ,Value.cells] at hS);(try simp only [Act.put,zE,zF,zG]);revert X w hS;exact r)):G:=h r
theorem aY {R G:Prop} (r:R) (h:R->G:=by first|(intro r;(with_reducible refine Kh ?_);(with_reducible refine isBuildSlice ?_);(refine' bsl hS ?hr ?_);(case hr=>(intro w0;go_simp;try rfl));intro X w hS;(try simp only [Act.eval,zD,zC,zA,zB,zJ,Value.cells] at hS);(try simp only [Act.put,zE,zF,zG]);revert X w hS;exact r)):G:=h r
def Tg (d:Nat) (G:Prop):Prop:=G
theorem tgB {P:Program} {a:Act} {w:World} {Q:Exit->Act->World->Prop} {ops:Array Oper} {rest:List Oper} {type:TypeId} {pos:String} {after:Array Edge} {d:Nat} {T:TypeId} {x:Operand} (h:wpList P ops Q (⟨some d,.box T x,type,pos,after,none⟩::rest) a w):Tg d (wpList P ops Q (⟨some d,.box T x,type,pos,after,none⟩::rest) a w):=h
theorem tgA {P:Program} {a:Act} {w:World} {Q:Exit->Act->World->Prop} {ops:Array Oper} {rest:List Oper} {type:TypeId} {pos:String} {after:Array Edge} {d:Nat} {T:TypeId} (h:wpList P ops Q (⟨some d,.alloc T,type,pos,after,none⟩::rest) a w):Tg d (wpList P ops Q (⟨some d,.alloc T,type,pos,after,none⟩::rest) a w):=h
theorem tgS {P:Program} {a:Act} {w:World} {Q:Exit->Act->World->Prop} {ops:Array Oper} {rest:List Oper} {type:TypeId} {pos:String} {after:Array Edge} {d:Nat} {T:TypeId} {n:Nat} {parts:Array (Nat × Operand)} (h:wpList P ops Q (⟨some d,.buildSlice T n parts,type,pos,after,none⟩::rest) a w):Tg d (wpList P ops Q (⟨some d,.buildSlice T n parts,type,pos,after,none⟩::rest) a w):=h
theorem aN (d:Nat) {R G:Prop} (r:R) (h:R->Tg d G:=by first|(intro r;(first|((with_reducible refine tgB ?_);refine bx hS rfl rfl rfl ?_)|((with_reducible refine tgA ?_);(refine' al (z:=_) hS rfl rfl ?ha ?_);(case ha=>exact Zv.o))|((with_reducible refine tgS ?_);(refine' bsl hS ?hr ?_);(case hr=>(intro w0;go_simp;try rfl))));intro X w hS;(try simp only [Act.eval,zD,zC,zA,zB,zJ,Value.cells] at hS);(try simp only [Act.put,zE,zF,zG]);revert X w hS;exact r)):G:=h r
theorem aG {R G:Prop} (r:R) (h:R->G:=by first|(intro r;(with_reducible refine Kh ?_);((with_reducible refine Zd ?_);first|go_skip|((with_reducible refine guarded_no ?hw ?_);(case hw=>(simp only [Region.wanted,yielded,zC,zA,zB,zK];first|exact (rfl:(some true == some false)=false)|exact (rfl:(some false == some true)=false)));(try simp only [Act.put,zE,zF,zG]))|((with_reducible refine Qs ?hw ?_);case hw=>(simp only [Region.wanted,yielded,zC,zA,zB,zK,jPa];done)));exact r)):G:=h r
theorem bS {R G:Prop} (r:R) (h:R->G:=by first|(intro r;simp only [zH,zI,Given,Facts] at hg;simp only [Qb,Qe,Qd,Qf,zH,zI,zA,zB,zK,jC,Act.put,zE,zF,zG,hg];refine ⟨?_⟩;refine Qz (fun K hK=>?_);have HK:=yH hK;clear hK;rw [jAa (by rfl)];revert K HK;exact r)):G:=h r
theorem bZ {R G:Prop} (r:R) (h:R->G:=by first|(intro r;simp only [zH,zI,Given,Facts] at hg;simp only [Qb,Qe,Qd,Qf,zH,zI,zA,zB,zK,jC,Act.put,zE,zF,zG,hg];refine ⟨?_⟩;refine Qo (fun K hK=>?_);have HK:=yH hK;clear hK;rw [jAa (by rfl)];revert K HK;exact r)):G:=h r
theorem bO {G:Prop} (h:G:=by first|(refine HK.out _ _ ⟨rfl,J,PH.le.refl _,hS,?_⟩;clear HK;simp only [Facts];simp only [Qh,zH,zI,Act.put,zE,zF,zG,zD,zC,zA,zB,zJ])):G:=h
theorem bP {G:Prop} (h:G:=by first|(refine HK.out _ _ ⟨rfl,J9,PH.le.refl _,hS,?_⟩;clear HK;simp only [Facts];simp only [Qh,zH,zI,Act.put,zE,zF,zG,zD,zC,zA,zB,zJ])):G:=h
theorem bL {G:Prop} (h:G:=by first|(repeat (first|exact Lasting.nil|refine Lasting.cons (fun _ _ _ _ h=>h) ?_))):G:=h
theorem bJ {R G:Prop} (r:R) (h:R->G:=by first|(intro r;(with_reducible refine Yg ?_);(first|((refine' wp_ldi1 (v:=_) hS hJ ?ha rfl ?hc ?_);(case ha=>exact Eq.trans Ag.o rfl);(case hc=>assumption))|((refine' wp_ldiN (vs:=_) hS hJ ?ha rfl ?hc ?hb ?_);(case ha=>exact Eq.trans Ag.o rfl);(case hc=>assumption);(case hb=>exact Eq.trans Sz.o rfl)));exact r)):G:=h r
theorem bK {R G:Prop} (r:R) (h:R->G:=by first|(intro r;(with_reducible refine Yg ?_);(first|((refine' wp_ldi1 (v:=_) hS hJ9 ?ha rfl ?hc ?_);(case ha=>exact Eq.trans Ag.o rfl);(case hc=>assumption))|((refine' wp_ldiN (vs:=_) hS hJ9 ?ha rfl ?hc ?hb ?_);(case ha=>exact Eq.trans Ag.o rfl);(case hc=>assumption);(case hb=>exact Eq.trans Sz.o rfl)));exact r)):G:=h r
theorem bM {G:Prop} (h:G:=by first|(intro b' hb' cs J K hJK;simp only [jBa,jCb,jKb] at hb';subst hb';exact fun h=>h)):G:=h
theorem bN {G:Prop} (h:G:=by first|(intro b' hb' v' J;simp only [jBa,jCb,jKb] at hb';subst hb';exact ⟨trivial,trivial⟩)):G:=h
theorem bC {P:Program} {f:FuncId} {args:Array Value} {w:World} {v:Ending} {R':Ending->World->Prop} (h:Calls P f args w fun e w'=>e=v/\w=w') (k:R' v w):Calls P f args w R':=h.mono fun e w' ⟨a,b⟩=>by subst a b;exact k
theorem bB {P:Program} {E:World} {I:PH} {ms:List PH} {f:FuncId} {args:Array Value} {w:World} {v:Ending} {R':Ending->World->Prop} (hS:Sat E I ms w) (h:Calls P f args w fun e w'=>e=v/\Below w.heap.size w w') (k:∀ w',Sat E I ms w'->R' v w'):Calls P f args w R':=h.mono fun e w' ⟨a,b⟩=>by subst a;exact k w' (hS.below_ b)
end
section
namespace Rows
def dumpReadsCard : Claim7 := { stood := { row := dumpReadsRow, standIns := [], harness := (true, "8989862b6ac0e3b83bc4e1bcb1933fb19d5f144bbc88eee1a28311d003136502"), looks := true }, kinds := [], alts := [], laidByText := true, laidKinds := [.data, .pinned], laidTests := true, laidLooks := .later }
def DumpReadsCardSaid:Prop:=Claim7.holds Tryz.pinned (.plain (OpenSpec.ofChange dumpReadsSpec)) dumpReadsCard
end Rows
end
section
open Go
set_option maxRecDepth 100000
theorem seatTie1 : Tryz.prog.laidByTextLater [("unicode/utf8.acceptRanges", Rows.laid_unicode_utf8_acceptRanges)] [.data] true :=
 Program.laidByTextLater_by_one 19 8 33 (by kernel_rfl) (by kernel_rfl) (by kernel_rfl) (by kernel_rfl) (by kernel_rfl) (by kernel_rfl) (fun _ _=>by kernel_rfl)
theorem pin_laid_unicode_utf8_first : Tryz.pinned.checked.prog.pinnedFits "unicode/utf8.first" = true := by kernel_rfl
theorem noOwnUnsafe : Tryz.pinned.checked.prog.headLifts.contains "ownunsafe" = false := by kernel_rfl
theorem fits1 : Tryz.pinned.checked.prog.listedFits [("unicode/utf8.acceptRanges", Rows.laid_unicode_utf8_acceptRanges), ("unicode/utf8.first", Rows.laid_unicode_utf8_first)] = true := by
 unfold Program.listedFits;rw [noOwnUnsafe]
 kernel_rfl
theorem tie : Tryz.prog.laidByTextLater [("unicode/utf8.acceptRanges", Rows.laid_unicode_utf8_acceptRanges)] [.data] true :=
 Program.laidByTextLater.sub seatTie1 ["unicode/utf8.acceptRanges"] (by kernel_rfl) (by kernel_rfl)
theorem dumpReads_row_tie:Rows.dumpReadsRow.laidByTextAt .later Tryz.pinned [.data,.pinned] true :=
 OpenClaim.laidByTextAt_pinned rfl rfl tie rfl rfl rfl rfl (fun y hy _e=>by
  simp only [Rows.dumpReadsRow,List.zip_cons_cons,List.zip_nil_right,jBa,List.mem_nil_iff,jKb] at hy;rcases hy with rfl|rfl
  . cases _e
  . exact ⟨pin_laid_unicode_utf8_first,by kernel_rfl⟩) fits1
end
section
section
variable {α:Type} [DecidableEq α]
def Qw (c:α):List α->List (List α)
 | []=>[[]]
 | x::r=>if x=c then []::Qw c r else match Qw c r with|[]=>[[x]]|h::t=>(x::h)::t
theorem splC_hit (c:α) (b:List α):∀ (a:List α),c ∉ a->Qw c (a ++ c::b)=a::Qw c b
 | [],_=>by simp [Qw]
 | x::a,h=>by
   have hx:x≠c:=fun e=>h (by simp [e])
   have ha:c ∉ a:=fun e=>h (by simp [e])
   rw [List.cons_append,Qw,jAb hx,splC_hit c b a ha]
theorem splC_miss (c:α):∀ (a:List α),c ∉ a->Qw c a=[a]
 | [],_=>rfl
 | x::a,h=>by
   have hx:x≠c:=fun e=>h (by simp [e])
   have ha:c ∉ a:=fun e=>h (by simp [e])
   rw [Qw,jAb hx,splC_miss c a ha]
end
theorem splC_map (c:UInt8):∀ (l:List UInt8),(Qw c l).map (fun p=>p.map UInt8.toNat)=Qw c.toNat (l.map UInt8.toNat)
 | []=>rfl
 | x::l=>by
   have ih:=splC_map c l;by_cases h:x=c
   . subst h
     simp only [Qw,jD,jC,ih,jTb]
   . have h2:x.toNat≠c.toNat:=fun e=>h (UInt8.toNat_inj.1 e)
     simp only [Qw,jD,jAb h,jAb h2];rw [<- ih];cases Qw c l <;> simp
end
end Go.Proofs.YtidamcdklgfogaaGreatDoor
