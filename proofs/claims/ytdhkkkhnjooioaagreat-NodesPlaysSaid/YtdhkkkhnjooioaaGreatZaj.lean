import Derived.Test.YtdhkkkhnjooioaaGreatZai
import Derived.OwnWalk
import Derived.Test.YtdhkkkhnjooioaaGreatZae
import Derived.Lib.Walk
set_option linter.unusedSimpArgs false
set_option linter.unusedVariables false
namespace Go.Proofs.YtdhkkkhnjooioaaGreat
open Go.RowKit
theorem nd0_one:∀ u ∈ (Value.cells (.agg node0)).toList,u.oneCell'=true:=by simp [Value.cells,Value.oneCell',node0]
set_option maxRecDepth 100000 in
set_option maxHeartbeats 4000000 in
theorem pgive_any (E w:World) (I m:PH) (ms:List PH) (P:Nat) (p:G.Pl) (id:Nat) (old:G.Nd) (hn:p.nd id=some old) (hfl:p.free.length<p.slots.length) (hP:PoolAt P p m) (hS:Sat E I (m::ms) w) :
 Calls Tryz.prog 67 #[.pointer (some ⟨P,0,none⟩),nv id] w fun e w'=>e=.returned (.int .i64 0)∧∃ m',PoolAt P (p.give id) m'∧Sat E I (m'::ms) w':=by
 have hR:=hP.read
 obtain ⟨hf,A,cA,T,cT,vF,mA,mT,mF,hbd,hA,hT,hF⟩:=hP
 obtain ⟨g1,g2⟩:=G.Pl.nd_some.1 hn
 have hlt:=(List.getElem?_eq_some_iff.1 g2).1
 have his:p.isI (id:Int)=true:=G.Pl.isI_of g1 g2
 have hgive:p.give id={ p with slots:=p.slots.set id none,free:=p.free ++ [id] }:=by unfold G.Pl.give;rw [if_pos (by rw [hn];rfl)]
 have hmany:=G.many_set_none g2
 have hml:=G.many_le p.slots
 have hlen:=hf.len
 have hroom:=hf.room
 have hfin:∀ m1 m2 m3 F cF,OwnP m1 96 5 (.slice (some ⟨A,0,none⟩) p.slots.length cA) p.slots.length (spl (p.slots.zipIdx.flatMap ndC) (id * 5) node0.toList)→OwnP m2 4 1 (.slice (some ⟨T,0,none⟩) p.slots.length cT) p.slots.length (spl (p.slots.flatMap tkC) id [.bool false]) →
  OwnP m3 3 1 (.slice F (p.free.length+1) cF) (p.free.length+1) (p.free.flatMap ivC ++ [nv id]) →
  ∀ w',Sat E I (PH.one P (.cells #[nv p.room,.slice (some ⟨A,0,none⟩) p.slots.length cA,.slice (some ⟨T,0,none⟩) p.slots.length cT,.slice F (p.free.length+1) cF,.int .i64 ((G.many p.slots:Int) - 1)] 114)::m1::m2::m3::ms) w'→∃ m',PoolAt P (p.give id) m'∧Sat E I (m'::ms) w':=fun m1 m2 m3 F cF hO1 hO2 hO3 w' hS'=>by
  obtain ⟨m4,hb2,hS2⟩:=Sat.pack [PH.one P (.cells #[nv p.room,.slice (some ⟨A,0,none⟩) p.slots.length cA,.slice (some ⟨T,0,none⟩) p.slots.length cT,.slice F (p.free.length+1) cF,.int .i64 ((G.many p.slots:Int) - 1)] 114),m1,m2,m3] hS'
  rw [hgive]
  refine ⟨m4,⟨hf.set (fun _ h=>by cases h) (by simp;omega),A,cA,T,cT,.slice F (p.free.length+1) cF,m1,m2,m3,?_,?_,?_,?_⟩,hS2⟩
  · simp only [plV,List.length_set]
    rw [show nv (G.many (p.slots.set id none))=.int .i64 ((G.many p.slots:Int) - 1) by simp only [nv];congr 1;omega]
    exact hb2
  · simp only [List.length_set]
    rw [← zip_flat_set _ _ hlt]
    exact hO1
  · simp only [List.length_set]
    rw [← flat_set tkC_len _ _ hlt,Nat.mul_one]
    exact hO2
  · simp only [List.length_append,List.length_cons,List.length_nil,List.flatMap_append]
    exact hO3
 have Hfin:=Lib.hid hfin
 have HR:=Lib.hid hR
 have HOA:=Lib.hid hA
 have HOT:=Lib.hid hT
 have HOF:=Lib.hid hF
 have hall:∀ (E' w':World) (J:PH) (ms':List PH),Sat E' J ms' w'→(∀ q ∈ [PH.one P (.cells (plV p A cA T cT vF) 114),mA,mT,mF],q ∈ ms')→PoolR (heapOf w') P p:=fun _ _ _ _ h hl=>by
  have:=h.all_le hl
  rw [← hbd.1] at this
  exact HR.out.le this
 have Hall:=Lib.hid hall
 obtain ⟨nF,cF,hvF,_⟩:=hF.shape
 subst hvF
 have hS:=Sat.unpack hbd hS
 clear hfin hA hT hF hf hbd hall hR HR hgive hn g2
 simp only [List.cons_append,List.nil_append] at hS
 go_enter Tryz.func67,Tryz.ntmps67
 go_wp2_with ( (go_at_call 76;(with_reducible refine Calls.mono (is_any (Hall.out _ _ _ _ hS (by simp)) _) ?_);rintro e w9 ⟨rfl,rfl⟩;rw [his]) )
 obtain ⟨I2,l12,lP,hS2,bP⟩:=hS.ice
 have iP1:I2.at P 1=some (.slice (some ⟨A,0,none⟩) p.slots.length cA):=PH.at_le lP (at_one rfl)
 have iP2:I2.at P 2=some (.slice (some ⟨T,0,none⟩) p.slots.length cT):=PH.at_le lP (at_one rfl)
 have HbP:=Lib.hid bP
 clear hS bP lP l12 Hall
 refine region_c1 [[],[0],[0,1],[0,1,2],[],[],[5],[5,6],[5,6,7],[],[],[0,1,2,3,4,5,6,7,8,10],[0,1,2,3,4,5,6,7,8,10,11],[0,1,2,3,4,5,6,7,8,9,10,11,12],[0,1,2,3,4,5,6,7,8,9,10,11,12,13]] E I2 _
  [fun v _=>v=vPt P,fun v _=>v=vPt P,fun v _=>v=.pointer (some ⟨P,1,none⟩),fun v _=>v=.slice (some ⟨A,0,none⟩) p.slots.length cA,fun v _=>v=nv id,fun v _=>v=vPt P,fun v _=>v=vPt P,fun v _=>v=.pointer (some ⟨P,2,none⟩),fun v _=>v=.slice (some ⟨T,0,none⟩) p.slots.length cT,fun v _=>v=nv id,fun v _=>v=.agg node0,fun v _=>v=.pointer (some ⟨A,id * 5,none⟩),fun _ _=>True,fun v _=>v=.pointer (some ⟨T,id,none⟩),fun _ _=>True] [12,14]
  (set2G _ 0 1 (fun m'=>OwnP m' 96 5 (.slice (some ⟨A,0,none⟩) p.slots.length cA) p.slots.length (spl (p.slots.zipIdx.flatMap ndC) (id * 5) node0.toList)) (fun m'=>OwnP m' 4 1 (.slice (some ⟨T,0,none⟩) p.slots.length cT) p.slots.length (spl (p.slots.flatMap tkC) id [.bool false]))) (by kernel_rfl) (by kernel_rfl) (by decide) hS2 rfl ?last (fun _ _ _ _ _ _ h=>h) (fun _ _ _ _ _ _ h=>h) ?plain ?step ?fin
 case last=>repeat (first|exact Lasting.nil|refine Lasting.cons (fun _ _ _ _ h=>h) ?_)
 case plain=>(repeat' (first|exact trivial|apply And.intro)) <;> first|exact .inl rfl|(refine .inr ?_;intro s vals J bs w hstop hg hJ hS hG;clear hG;simp only [zH,zI,Given,Facts] at hg;simp only [textL,actL,dstAt,opAt,zH,zI,zA,zB,zK,if_true,Act.put,zE,zF,zG,hg];refine ⟨?_⟩;refine wpStep_of (fun K hK=>?_);have HK:=Lib.hid hK;clear hK;rw [if_pos (by rfl)];(first|((with_reducible refine atLoad ?_);  ((refine' wp_ldi1 (v:=_) hS hJ ?ha rfl ?hc ?_);(case ha=>first|exact ty_agg112|exact ty_agg35 );(case hc=>assumption)) )|(go_wp2_with (fail)));refine HK.out _ _ ⟨rfl,J,PH.le.refl _,hS,?_⟩;clear HK;simp only [Facts];simp only [outOf,zH,zI,Act.put,zE,zF,zG,zD,zC,zA,zB,zJ])
 case step =>
  refine ⟨⟨trivial,?_⟩,?_⟩
  · intro vals J bs w hg hJ hS hG
    have hG:bs=_:=hG
    subst hG
    simp only [zH,zI,Given,Facts] at hg;simp only [textL,actL,dstAt,opAt,zH,zI,zA,zB,zK,if_true,Act.put,zE,zF,zG,hg];refine ⟨?_⟩;refine wpStep_of (fun K hK=>?_);have HK:=Lib.hid hK;clear hK;rw [if_pos (by rfl)]
    refine wp_stO (i:=id) hS 0 rfl rfl rfl rfl HOA.out rfl hlt ty_sz96 rfl nd0_one fun m' w hO' hS=>?_
    exact HK.out _ _ ⟨rfl,J,_,PH.le.refl _,hS,trivial,m',hO',rfl⟩
  · intro vals J bs w hg hJ hS hG
    refine Veil.out ?_
    obtain ⟨mm,hmm,hG⟩:=hG
    subst hG
    refine ⟨?_⟩
    simp only [zH,zI,Given,Facts] at hg;simp only [textL,actL,dstAt,opAt,zH,zI,zA,zB,zK,if_true,Act.put,zE,zF,zG,hg];refine ⟨?_⟩;refine wpStep_of (fun K hK=>?_);have HK:=Lib.hid hK;clear hK;rw [if_pos (by rfl)]
    refine wp_stO (i:=id) hS 1 rfl rfl rfl rfl HOT.out (Nat.mul_one id).symm hlt ty_sz4 rfl (bool_one false) fun m' w hO' hS=>?_
    exact HK.out _ _ ⟨rfl,J,_,PH.le.refl _,hS,trivial,mm,m',hmm,hO',rfl⟩
 case fin =>
  intro vals J bs w hJ hg hS hG
  obtain ⟨m1,m2,hO1,hO2,hns⟩:=hG
  subst hns
  have hS:=hS.less hJ
  have hS:=HbP.out _ _ hS
  have HO1:=Lib.hid hO1
  have HO2:=Lib.hid hO2
  clear hO1 hO2 HbP iP1 iP2
  simp only [List.length_cons,List.length_nil,Nat.reduceAdd,Below_,Facts,zH,zI,true_and,and_true] at hg;simp only [List.length_cons,List.length_nil,Nat.reduceAdd,textL,actL,dstAt,zA,zB,zK,if_true,Act.put,zE,zF,zG,hg];refine ⟨?_⟩
  clear hg
  simp only [zF,zG] at hS
  have m0:(0:Int)<(G.many p.slots:Int):=by omega
  go_wp2_with (first|((with_reducible refine isAppend ?_);(refine' apP (p:=_) (m:=_) (v:=_) (n:=_) (xs:=_) (news:=_) 4 (.inr (List.Mem.head _)) hS rfl rfl rfl Tryz.underlying28 int_info rfl (by decide) rfl HOF.out rfl ?hl ?hcl ?h1 ?h63 ?hby ?_);(case hcl=>exact Cells.one _ _ _ _);(case hl=>rfl);(case h1=>rfl);(case h63=>(unfold maxLen;omega));(case hby=>omega);clear hS;intro v1 m3 w hO3 hS;refine Veil.out ?_;obtain ⟨F,cF2,rfl,_⟩:=OwnP.shape hO3;refine ⟨?_⟩;have HO3:=Lib.hid hO3;clear hO3;(try simp only [zF,zG] at hS);(try simp only [Act.put,zE,zF,zG]))|((with_reducible refine atList ?_);first|((with_reducible refine isLoad ?_);(first|(refine ld1 0 hS rfl rfl ?ha rfl rfl rfl ?_;(case ha =>  exact ty_agg28))|(refine ld1 1 hS rfl rfl ?ha rfl rfl rfl ?_;(case ha =>  exact ty_agg3 )) );(try simp only [Act.put,zE,zF,zG]))|((with_reducible refine isStore ?_);( (refine st1 1 hS rfl rfl rfl rfl rfl ?ha rfl rfl ?hb ?_;(case ha=>first|exact ty_sz3|exact ty_sz28);(case hb=>(simp;done))));clear hS;intro w hS;(try simp only [zF,zG,zE,Act.eval,zD,zC,zA,zB,zJ] at hS);(try simp only [Act.put]))|((with_reducible refine isBuildSlice ?_);(refine' bsl hS ?hr ?_);(case hr=>(intro w0;go_simp;rfl));clear hS;intro XS w hS;(try simp only [Act.eval,zD,zC,zA,zB,zJ,Value.cells] at hS);(try simp only [Act.put,zE,zF,zG]))))
  go_ret
  exact ⟨rfl,Hfin.out _ _ _ _ _ HO1.out HO2.out HO3.out _ hS.drop⟩
end Go.Proofs.YtdhkkkhnjooioaaGreat
namespace Go.Proofs.YtdhkkkhnjooioaaGreat
open Go.RowKit
theorem nat_xor_one (n:Nat):n ^^^ 1=G.flip n:=by
 have h1:(n ^^^ 1) / 2=n / 2:=by rw [Nat.xor_div_two];simp
 have h2:(n ^^^ 1) % 2=(n % 2+1) % 2:=by
  have:=Nat.xor_mod_two_eq_one (a:=n) (b:=1)
  omega
 unfold G.flip
 split <;> omega
theorem bits_xor_i64_nat (a b:Nat) (ha:a<4611686018427387904) (hb:b<4611686018427387904):bits .xor .i64 a b=((a ^^^ b:Nat):Int):=by
 have hp:2 ^ 62≤2 ^ 64:=by decide
 have ha':a % 2 ^ 64=a:=Nat.mod_eq_of_lt (by omega)
 have hb':b % 2 ^ 64=b:=Nat.mod_eq_of_lt (by omega)
 have hx:a ^^^ b<4611686018427387904:=Nat.xor_lt_two_pow (n:=62) (by omega) (by omega)
 have e:IntKind.i64.bits=64:=rfl
 simp only [bits,BitVec.ofInt_natCast,BitVec.toNat_xor,BitVec.toNat_ofNat,e,ha',hb']
 rw [IntKind.wrap_i64];omega
theorem xor1n (n:Nat) (h:n<4611686018427387904):bits .xor .i64 (n:Int) 1=((G.flip n:Nat):Int):=by
 rw [show (1:Int)=((1:Nat):Int) from rfl,bits_xor_i64_nat _ _ h (by omega),nat_xor_one]
theorem flip_lt {n:Nat} (h:n<4611686018427387904):G.flip n<4611686018427387904:=by unfold G.flip;split <;> omega
theorem flipIf_lt {n:Nat} (h:n<4611686018427387904) (b:Bool):G.flipIf n b<4611686018427387904:=by unfold G.flipIf;split;exact flip_lt h;exact h
section
variable (w:World)
theorem enot_any (n:Nat) (h:n<4611686018427387904):Calls Tryz.prog 31 #[nv n] w fun e w'=>e=.returned (nv (G.flip n))∧w=w':=by
 have hx:=xor1n n h
 go_enter Tryz.func31,Tryz.ntmps31
 go_wp2
 go_ret
 exact ⟨rfl,rfl⟩
theorem eneg_any (n:Nat):Calls Tryz.prog 38 #[nv n] w fun e w'=>e=.returned (.bool (n % 2 == 1))∧w=w':=by
 by_cases h:n=0
 · subst h
   go_enter Tryz.func38,Tryz.ntmps38
   go_wp2
   go_ret
   exact ⟨rfl,rfl⟩
 · have h0:(0:Int)<(n:Int):=by omega
   have h2:((n:Int) % 2 == 1)=(n % 2 == 1):=by
    rcases Nat.mod_two_eq_zero_or_one n with h|h <;> (simp [h];omega)
   go_enter Tryz.func38,Tryz.ntmps38
   go_wp2
   go_ret
   exact ⟨rfl,rfl⟩
theorem enode_any (n:Nat) (h:n<9223372036854775808):Calls Tryz.prog 51 #[nv n] w fun e w'=>e=.returned (nv (n / 2))∧w=w':=by
 have h0:max (n:Int) 0=(n:Int):=by omega
 have h1:wrap64 ((n:Int) / 2)=((n / 2:Nat):Int):=by unfold wrap64;omega
 go_enter Tryz.func51,Tryz.ntmps51
 go_wp2
 go_ret
 exact ⟨congrArg (fun b=>Ending.returned (.int .i64 b)) (by omega),rfl⟩
theorem eflip_any (n:Nat) (b:Bool) (h:n<4611686018427387904):Calls Tryz.prog 72 #[nv n,.bool b] w fun e w'=>e=.returned (nv (G.flipIf n b))∧w=w':=by
 cases b
 all_goals
  go_enter Tryz.func72,Tryz.ntmps72
  go_wp2_with (go_at_call 31;(with_reducible refine Calls.mono (enot_any _ _ h) ?_);rintro e w9 ⟨rfl,rfl⟩)
  go_ret
  exact ⟨rfl,rfl⟩
set_option maxRecDepth 100000 in
theorem eof_any (n:Nat) (b:Bool) (h:n<4194304):Calls Tryz.prog 48 #[nv n,.bool b] w fun e w'=>e=.returned (nv (G.edge n b))∧w=w':=by
 have h0:max (n:Int) 0=(n:Int):=by omega
 have h1:2 * (n:Int)=((2 * n:Nat):Int):=by omega
 have hfl:=eflip_any w (2 * n) b (by omega)
 unfold G.edge
 generalize 2 * n=m at *
 go_enter Tryz.func48,Tryz.ntmps48
 go_wp2_with (go_at_call 72;(try simp only [h1]);(with_reducible refine Calls.mono hfl ?_);rintro e w9 ⟨rfl,rfl⟩)
 go_ret
 exact ⟨rfl,rfl⟩
theorem enorm_any (lo hi:Nat) (hl:lo<4611686018427387904) (hh:hi<4611686018427387904):Calls Tryz.prog 45 #[nv lo,nv hi] w fun e w'=>e=.returned (.tuple #[nv (G.flipIf lo (hi % 2 == 1)),nv (G.flipIf hi (hi % 2 == 1)),.bool (hi % 2 == 1)])∧w=w':=by
 generalize hb:(hi % 2 == 1)=b
 have hneg:=eneg_any w hi
 rw [hb] at hneg
 go_enter Tryz.func45,Tryz.ntmps45
 go_wp2_with (first|(go_at_call 38;(with_reducible refine Calls.mono hneg ?_);rintro e w9 ⟨rfl,rfl⟩)|(go_at_call 72;first|((with_reducible refine Calls.mono (eflip_any _ _ _ hl) ?_);rintro e w9 ⟨rfl,rfl⟩)|((with_reducible refine Calls.mono (eflip_any _ _ _ hh) ?_);rintro e w9 ⟨rfl,rfl⟩)))
 go_ret3
 exact ⟨rfl,rfl⟩
end
end Go.Proofs.YtdhkkkhnjooioaaGreat
namespace Go.Proofs.YtdhkkkhnjooioaaGreat
open Go.RowKit
theorem ty_agg115:aggB Tryz.prog 115=some false:=by kernel_rfl
theorem kE:Key Tryz.prog 130 ekey:=key_ekey Tryz.underlying130 Tryz.underlying34 (by kernel_rfl) (by kernel_rfl)
structure En where
 lo:Int
 hi:Int
 id:Int
 b:Nat
def En.row (e:En):Rw (Int × Int):=⟨(e.lo,e.hi),.int .i64 e.id,e.b⟩
def rows (es:List En):List (Rw (Int × Int)):=es.map En.row
def findE (es:List En) (lo hi:Int):Option Int:=(es.find? fun e=>decide ((e.lo,e.hi)=(lo,hi))).map (·.id)
theorem getR_rows (es:List En) (lo hi:Int):getR (rows es) (lo,hi)=(findE es lo hi).map (Value.int .i64):=by
 unfold getR rows findE
 rw [List.find?_map,Option.map_map,Option.map_map]
 rfl
def putE (es:List En) (lo hi id:Int) (c:Nat):List En:=es ++ [⟨lo,hi,id,c⟩]
def cutE (es:List En) (lo hi:Int):List En:=es.filter fun e=>decide ((e.lo,e.hi)≠(lo,hi))
theorem rows_put (es:List En) (lo hi id:Int) (c:Nat):rows es ++ [⟨(lo,hi),.int .i64 id,c⟩]=rows (putE es lo hi id c):=by
 unfold rows putE;simp [En.row]
theorem rows_cut (es:List En) (lo hi:Int):delR (rows es) (lo,hi)=rows (cutE es lo hi):=by
 unfold delR rows cutE
 rw [List.filter_map]
 rfl
def tbv (g M:Nat):PH:=PH.one g (.cells #[.map (some M)] 117)
def tbm (M:Nat) (es:List En) (c:Nat):PH:=PH.one M (mapObj ekey (rows es) c)
structure TbIn (I:PH) (g M:Nat) (es:List En) (c:Nat):Prop where
 v:I.at g 0=some (.map (some M))
 m:I M=some (mapObj ekey (rows es) c)
theorem TbIn.le {I J:PH} {g M:Nat} {es:List En} {c:Nat} (h:TbIn I g M es c) (hJ:I.le J):TbIn J g M es c:=⟨PH.at_le hJ h.v,hJ _ _ h.m⟩
theorem Sat.tb {E w:World} {I:PH} {ms:List PH} {g M:Nat} {es:List En} {c:Nat} (hS:Sat E I ms w) (h1:tbv g M ∈ ms) (h2:tbm M es c ∈ ms):TbIn (heapOf w) g M es c :=
 ⟨PH.at_le (hS.own _ h1) (by simp [PH.at,PH.one_self,tbv]),hS.own _ h2 _ _ (PH.one_self _ _)⟩
theorem new_any (E w:World) (I:PH) (ms:List PH) (hS:Sat E I ms w) :
 Calls Tryz.prog 21 #[] w fun e w'=>∃ g M,e=.returned (.pointer (some ⟨g,0,none⟩))∧Sat E I (tbv g M::tbm M [] 0::ms) w':=by
 go_enter Tryz.func21,Tryz.ntmps21
 go_wp2_with (first|((with_reducible refine isMakeMap ?_);refine mkM ekey hS rfl rfl ?_;clear hS;intro M w hS;(try simp only [Act.put,zE,zF,zG]))|((with_reducible refine atList ?_);  ((with_reducible refine isBox ?_);refine bx hS rfl rfl rfl ?_;clear hS;intro X w hS;(try simp only [Act.eval,zD,zC,zA,zB,zJ,Value.cells] at hS);(try simp only [Act.put,zE,zF,zG])) ))
 go_ret
 exact ⟨_,_,rfl,hS⟩
theorem find_any (w:World) (g M:Nat) (es:List En) (c:Nat) (lo hi:Int) (h:TbIn (heapOf w) g M es c) :
 Calls Tryz.prog 46 #[.pointer (some ⟨g,0,none⟩),.int .i64 lo,.int .i64 hi] w fun e w'=>e=.returned (.tuple #[.int .i64 ((findE es lo hi).getD 0),.bool (findE es lo hi).isSome])∧w=w':=by
 have hS:=Sat.start w
 have H1:=h.v
 have H2:=Lib.hid h.m
 have hq:=getR_rows es lo hi
 generalize rows es=l at *
 cases hf:findE es lo hi with
 | none =>
   rw [hf] at hq
   have Hq:=Lib.hid hq
   clear hq hf h
   go_enter Tryz.func46,Tryz.ntmps46
   go_wp2_with (first|((with_reducible refine isLookup ?_);refine lk2 (x:=(lo,hi)) hS (.inl (PH.le.refl _)) H2.out kE Tryz.underlying115 ty_z3 rfl rfl rfl rfl Hq.out ?_;simp only [Option.map_none,Option.getD_none,Option.isSome_none];(try simp only [Act.put,zE,zF,zG]))|((with_reducible refine atList ?_);  ((with_reducible refine isLoad ?_);( ((refine' ldI1 (v:=_) hS rfl rfl ?ha rfl ?hb ?_);(case ha=>exact ty_agg115);(case hb=>assumption)));(try simp only [Act.put,zE,zF,zG])) ))
   go_ret2
   exact ⟨rfl,rfl⟩
 | some i =>
   rw [hf] at hq
   have Hq:=Lib.hid hq
   clear hq hf h
   go_enter Tryz.func46,Tryz.ntmps46
   go_wp2_with (first|((with_reducible refine isLookup ?_);refine lk2 (x:=(lo,hi)) hS (.inl (PH.le.refl _)) H2.out kE Tryz.underlying115 ty_z3 rfl rfl rfl rfl Hq.out ?_;simp only [Option.map_some,zJ,Option.isSome_some];(try simp only [Act.put,zE,zF,zG]))|((with_reducible refine atList ?_);  ((with_reducible refine isLoad ?_);( ((refine' ldI1 (v:=_) hS rfl rfl ?ha rfl ?hb ?_);(case ha=>exact ty_agg115);(case hb=>assumption)));(try simp only [Act.put,zE,zF,zG])) ))
   go_ret2
   exact ⟨rfl,rfl⟩
end Go.Proofs.YtdhkkkhnjooioaaGreat
