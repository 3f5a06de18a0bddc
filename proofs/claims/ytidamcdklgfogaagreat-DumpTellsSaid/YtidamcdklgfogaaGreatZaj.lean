import Derived.Test.YtidamcdklgfogaaGreatZab
import Derived.Test.YtidamcdklgfogaaGreatZai
import Derived.OwnWalk
import Derived.Test.YtidamcdklgfogaaGreatZae
import Derived.Lib.Walk
import Derived.Test.YtidamcdklgfogaaGreatZag
set_option linter.unusedSimpArgs false
set_option linter.unusedVariables false
set_option maxRecDepth 100000
set_option maxHeartbeats 4000000
namespace Go.Proofs.YtidamcdklgfogaaGreat
section
open Go.RowKit
theorem nd0_one:∀ u ∈ (Value.cells (.agg node0)).toList,u.oneCell'=true:=by simp [Value.cells,Value.oneCell',node0]
theorem pgive_any (E w:World) (I m:PH) (ms:List PH) (P:Nat) (p:G.Pl) (id:Nat) (old:G.Nd) (hn:p.nd id=some old) (hfl:p.free.length<p.slots.length) (hP:PoolAt P p m) (hS:Sat E I (m::ms) w) :
  Calls Tryz.prog 155 #[.pointer (some ⟨P,0,none⟩),nv id] w fun e w'=>e=.returned (.int .i64 0)∧∃ m',PoolAt P (p.give id) m'∧Sat E I (m'::ms) w':=by
 have hR:=hP.read
 obtain ⟨hf,A,cA,T,cT,vF,mA,mT,mF,hbd,hA,hT,hF⟩:=hP
 obtain ⟨g1,g2⟩:=G.Pl.nd_some.1 hn
 have hlt:=(yE.1 g2).1
 have his:p.isI (id:Int)=true:=G.Pl.isI_of g1 g2
 have hgive:p.give id={ p with slots:=p.slots.set id none,free:=p.free ++ [id] }:=by unfold G.Pl.give;rw [if_pos (by rw [hn];rfl)]
 have hmany:=G.many_set_none g2
 have hml:=G.many_le p.slots
 have hlen:=hf.len
 have hroom:=hf.room
 have hfin:∀ m1 m2 m3 F cF,OwnP m1 194 5 (.slice (some ⟨A,0,none⟩) p.slots.length cA) p.slots.length (spl (p.slots.zipIdx.flatMap ndC) (id * 5) node0.toList)→OwnP m2 4 1 (.slice (some ⟨T,0,none⟩) p.slots.length cT) p.slots.length (spl (p.slots.flatMap tkC) id [.bool false]) →
   OwnP m3 3 1 (.slice F (p.free.length+1) cF) (p.free.length+1) (p.free.flatMap ivC ++ [nv id]) →
   ∀ w',Sat E I (PH.one P (.cells #[nv p.room,.slice (some ⟨A,0,none⟩) p.slots.length cA,.slice (some ⟨T,0,none⟩) p.slots.length cT,.slice F (p.free.length+1) cF,.int .i64 ((G.many p.slots:Int) - 1)] 216)::m1::m2::m3::ms) w'→∃ m',PoolAt P (p.give id) m'∧Sat E I (m'::ms) w':=fun m1 m2 m3 F cF hO1 hO2 hO3 w' hS'=>by
  obtain ⟨m4,hb2,hS2⟩:=Sat.pack [PH.one P (.cells #[nv p.room,.slice (some ⟨A,0,none⟩) p.slots.length cA,.slice (some ⟨T,0,none⟩) p.slots.length cT,.slice F (p.free.length+1) cF,.int .i64 ((G.many p.slots:Int) - 1)] 216),m1,m2,m3] hS'
  rw [hgive]
  refine ⟨m4,⟨hf.set (fun _ h=>by cases h) (by simp;omega),A,cA,T,cT,.slice F (p.free.length+1) cF,m1,m2,m3,?_,?_,?_,?_⟩,hS2⟩
  · simp only [plV,List.length_set]
    rw [show nv (G.many (p.slots.set id none))=.int .i64 ((G.many p.slots:Int) - 1) by simp only [nv];congr 1;omega]
    exact hb2
  · simp only [List.length_set]
    rw [← zip_flat_set _ _ hlt]
    exact hO1
  · simp only [List.length_set]
    rw [← flat_set tkC_len _ _ hlt,Nat.mul_one]
    exact hO2
  · simp only [yG,yB,yC,List.flatMap_append]
    exact hO3
 have Hfin:=yH hfin
 have HR:=yH hR
 have HOA:=yH hA
 have HOT:=yH hT
 have HOF:=yH hF
 have hall:∀ (E' w':World) (J:PH) (ms':List PH),Sat E' J ms' w'→(∀ q ∈ [PH.one P (.cells (plV p A cA T cT vF) 216),mA,mT,mF],q ∈ ms')→PoolR (Qa w') P p:=fun _ _ _ _ h hl=>by
  have:=h.all_le hl
  rw [← hbd.1] at this
  exact HR.out.le this
 have Hall:=yH hall
 obtain ⟨nF,cF,hvF,_⟩:=hF.shape
 subst hvF
 have hS:=Sat.unpack hbd hS
 clear hfin hA hT hF hf hbd hall hR HR hgive hn g2
 simp only [List.cons_append,List.nil_append] at hS
 go_enter Tryz.func155,Tryz.ntmps155
 go_wp2_with ( (go_at_call 152;(with_reducible refine yI (is_any (Hall.out _ _ _ _ hS (by simp)) _) ?_);rintro e w9 ⟨rfl,rfl⟩;rw [his]) )
 obtain ⟨I2,l12,lP,hS2,bP⟩:=hS.ice
 have iP1:I2.at P 1=some (.slice (some ⟨A,0,none⟩) p.slots.length cA):=PH.at_le lP (Qk rfl)
 have iP2:I2.at P 2=some (.slice (some ⟨T,0,none⟩) p.slots.length cT):=PH.at_le lP (Qk rfl)
 have HbP:=yH bP
 clear hS bP lP l12 Hall
 refine Qx [[],[0],[0,1],[0,1,2],[],[],[5],[5,6],[5,6,7],[],[],[0,1,2,3,4,5,6,7,8,10],[0,1,2,3,4,5,6,7,8,10,11],[0,1,2,3,4,5,6,7,8,9,10,11,12],[0,1,2,3,4,5,6,7,8,9,10,11,12,13]] E I2 _
  [fun v _=>v=vPt P,fun v _=>v=vPt P,fun v _=>v=.pointer (some ⟨P,1,none⟩),fun v _=>v=.slice (some ⟨A,0,none⟩) p.slots.length cA,fun v _=>v=nv id,fun v _=>v=vPt P,fun v _=>v=vPt P,fun v _=>v=.pointer (some ⟨P,2,none⟩),fun v _=>v=.slice (some ⟨T,0,none⟩) p.slots.length cT,fun v _=>v=nv id,fun v _=>v=.agg node0,fun v _=>v=.pointer (some ⟨A,id * 5,none⟩),fun _ _=>True,fun v _=>v=.pointer (some ⟨T,id,none⟩),fun _ _=>True] [12,14]
  (set2G _ 0 1 (fun m'=>OwnP m' 194 5 (.slice (some ⟨A,0,none⟩) p.slots.length cA) p.slots.length (spl (p.slots.zipIdx.flatMap ndC) (id * 5) node0.toList)) (fun m'=>OwnP m' 4 1 (.slice (some ⟨T,0,none⟩) p.slots.length cT) p.slots.length (spl (p.slots.flatMap tkC) id [.bool false]))) (by kernel_rfl) (by kernel_rfl) (by decide) hS2 rfl ?last (fun _ _ _ _ _ _ h=>h) (fun _ _ _ _ _ _ h=>h) ?plain ?step ?fin
 case last=>repeat (first|exact Lasting.nil|refine Lasting.cons (fun _ _ _ _ h=>h) ?_)
 case plain=>(repeat' (first|exact trivial|apply And.intro)) <;> first|exact .inl rfl|(refine .inr ?_;intro s vals J bs w hstop hg hJ hS hG;clear hG;simp only [zH,zI,Given,Facts] at hg;simp only [Qd,Qh,Qe,Qj,zH,zI,zA,zB,zK,if_true,Act.put,zE,zF,zG,hg];refine ⟨?_⟩;refine Qg (fun K hK=>?_);have HK:=yH hK;clear hK;rw [if_pos (by rfl)];(first|((with_reducible refine Qs ?_);  ((refine' Qq (v:=_) hS hJ ?ha rfl ?hc ?_);(case ha=>first|exact Zr|exact ty_agg24 );(case hc=>assumption)) )|(go_wp2_with (fail)));refine HK.out _ _ ⟨rfl,J,PH.le.refl _,hS,?_⟩;clear HK;simp only [Facts];simp only [Qo,zH,zI,Act.put,zE,zF,zG,zD,zC,zA,zB,zJ])
 case step =>
  refine ⟨⟨trivial,?_⟩,?_⟩
  · intro vals J bs w hg hJ hS hG
    have hG:bs=_:=hG
    subst hG
    simp only [zH,zI,Given,Facts] at hg;simp only [Qd,Qh,Qe,Qj,zH,zI,zA,zB,zK,if_true,Act.put,zE,zF,zG,hg];refine ⟨?_⟩;refine Qg (fun K hK=>?_);have HK:=yH hK;clear hK;rw [if_pos (by rfl)]
    refine Xr (i:=id) hS 0 rfl rfl rfl rfl HOA.out rfl hlt Qt rfl nd0_one fun m' w hO' hS=>?_
    exact HK.out _ _ ⟨rfl,J,_,PH.le.refl _,hS,trivial,m',hO',rfl⟩
  · intro vals J bs w hg hJ hS hG
    refine Veil.out ?_
    obtain ⟨mm,hmm,hG⟩:=hG
    subst hG
    refine ⟨?_⟩
    simp only [zH,zI,Given,Facts] at hg;simp only [Qd,Qh,Qe,Qj,zH,zI,zA,zB,zK,if_true,Act.put,zE,zF,zG,hg];refine ⟨?_⟩;refine Qg (fun K hK=>?_);have HK:=yH hK;clear hK;rw [if_pos (by rfl)]
    refine Xr (i:=id) hS 1 rfl rfl rfl rfl HOT.out (Nat.mul_one id).symm hlt ty_sz4 rfl (bool_one false) fun m' w hO' hS=>?_
    exact HK.out _ _ ⟨rfl,J,_,PH.le.refl _,hS,trivial,mm,m',hmm,hO',rfl⟩
 case fin =>
  intro vals J bs w hJ hg hS hG
  obtain ⟨m1,m2,hO1,hO2,hns⟩:=hG
  subst hns
  have hS:=hS.less hJ
  have hS:=HbP.out _ _ hS
  have HO1:=yH hO1
  have HO2:=yH hO2
  clear hO1 hO2 HbP iP1 iP2
  simp only [yB,yC,Nat.reduceAdd,Below_,Facts,zH,zI,true_and,and_true] at hg;simp only [yB,yC,Nat.reduceAdd,Qd,Qh,Qe,zA,zB,zK,if_true,Act.put,zE,zF,zG,hg];refine ⟨?_⟩
  clear hg
  simp only [zF,zG] at hS
  have m0:(0:Int)<(G.many p.slots:Int):=by omega
  go_wp2_with (first|((with_reducible refine isAppend ?_);(refine' apP (p:=_) (m:=_) (v:=_) (n:=_) (xs:=_) (news:=_) 4 (.inr (List.Mem.head _)) hS rfl rfl rfl Tryz.underlying23 int_info rfl (by decide) rfl HOF.out rfl ?hl ?hcl ?h1 ?h63 ?hby ?_);(case hcl=>exact Cells.one _ _ _ _);(case hl=>rfl);(case h1=>rfl);(case h63=>(unfold maxLen;omega));(case hby=>omega);clear hS;intro v1 m3 w hO3 hS;refine Veil.out ?_;obtain ⟨F,cF2,rfl,_⟩:=OwnP.shape hO3;refine ⟨?_⟩;have HO3:=yH hO3;clear hO3;(try simp only [zF,zG] at hS);(try simp only [Act.put,zE,zF,zG]))|((with_reducible refine Qc ?_);first|((with_reducible refine Qb ?_);(first|(refine ld1 0 hS rfl rfl ?ha rfl rfl rfl ?_;(case ha =>  exact Kn))|(refine ld1 1 hS rfl rfl ?ha rfl rfl rfl ?_;(case ha =>  exact Qf )) );(try simp only [Act.put,zE,zF,zG]))|((with_reducible refine Qn ?_);( (refine st1 1 hS rfl rfl rfl rfl rfl ?ha rfl rfl ?hb ?_;(case ha=>first|exact Kk|exact ty_sz23);(case hb=>(simp;done))));clear hS;intro w hS;(try simp only [zF,zG,zE,Act.eval,zD,zC,zA,zB,zJ] at hS);(try simp only [Act.put]))|((with_reducible refine Kq ?_);(refine' bsl hS ?hr ?_);(case hr=>(intro w0;go_simp;rfl));clear hS;intro XS w hS;(try simp only [Act.eval,zD,zC,zA,zB,zJ,Value.cells] at hS);(try simp only [Act.put,zE,zF,zG]))))
  go_ret
  exact ⟨rfl,Hfin.out _ _ _ _ _ HO1.out HO2.out HO3.out _ hS.drop⟩
end
section
open Go.RowKit
theorem nat_xor_one (n:Nat):n ^^^ 1=G.flip n:=by
 have h1:(n ^^^ 1) / 2=n / 2:=by rw [Nat.xor_div_two];simp
 have h2:(n ^^^ 1) % 2=(n % 2+1) % 2:=by
  have:=Nat.xor_mod_two_eq_one (a:=n) (b:=1)
  omega
 unfold G.flip
 split <;> omega
theorem bits_xor_i64_nat (a b:Nat) (ha:a<4611686018427387904) (hb:b<4611686018427387904):bits .xor .i64 a b=((a ^^^ b:Nat):Int):=by
 have hp:2 ^ 62≤2 ^ 64:=by decide
 have ha':a % 2 ^ 64=a:=Nat.mod_eq_of_lt (by omega)
 have hb':b % 2 ^ 64=b:=Nat.mod_eq_of_lt (by omega)
 have hx:a ^^^ b<4611686018427387904:=Nat.xor_lt_two_pow (n:=62) (by omega) (by omega)
 have e:IntKind.i64.bits=64:=rfl
 simp only [bits,BitVec.ofInt_natCast,BitVec.toNat_xor,BitVec.toNat_ofNat,e,ha',hb']
 rw [IntKind.wrap_i64];omega
theorem xor1n (n:Nat) (h:n<4611686018427387904):bits .xor .i64 (n:Int) 1=((G.flip n:Nat):Int):=by
 rw [show (1:Int)=((1:Nat):Int) from rfl,bits_xor_i64_nat _ _ h (by omega),nat_xor_one]
theorem flip_lt {n:Nat} (h:n<4611686018427387904):G.flip n<4611686018427387904:=by unfold G.flip;split <;> omega
theorem Kw {n:Nat} (h:n<4611686018427387904) (b:Bool):G.flipIf n b<4611686018427387904:=by unfold G.flipIf;split;exact flip_lt h;exact h
section
variable (w:World)
theorem enot_any (n:Nat) (h:n<4611686018427387904):Calls Tryz.prog 93 #[nv n] w fun e w'=>e=.returned (nv (G.flip n))∧w=w':=by
 have hx:=xor1n n h
 go_enter Tryz.func93,Tryz.ntmps93
 go_wp2
 go_ret
 exact ⟨rfl,rfl⟩
theorem eneg_any (n:Nat):Calls Tryz.prog 51 #[nv n] w fun e w'=>e=.returned (.bool (n % 2 == 1))∧w=w':=by
 by_cases h:n=0
 · subst h
   go_enter Tryz.func51,Tryz.ntmps51
   go_wp2
   go_ret
   exact ⟨rfl,rfl⟩
 · have h0:(0:Int)<(n:Int):=by omega
   have h2:((n:Int) % 2 == 1)=(n % 2 == 1):=by
    rcases Nat.mod_two_eq_zero_or_one n with h|h <;> (simp [h];omega)
   go_enter Tryz.func51,Tryz.ntmps51
   go_wp2
   go_ret
   exact ⟨rfl,rfl⟩
theorem Yd (n:Nat) (h:n<9223372036854775808):Calls Tryz.prog 49 #[nv n] w fun e w'=>e=.returned (nv (n / 2))∧w=w':=by
 have h0:max (n:Int) 0=(n:Int):=by omega
 have h1:wrap64 ((n:Int) / 2)=((n / 2:Nat):Int):=by unfold wrap64;omega
 go_enter Tryz.func49,Tryz.ntmps49
 go_wp2
 go_ret
 exact ⟨congrArg (fun b=>Ending.returned (.int .i64 b)) (by omega),rfl⟩
theorem Xg (n:Nat) (b:Bool) (h:n<4611686018427387904):Calls Tryz.prog 50 #[nv n,.bool b] w fun e w'=>e=.returned (nv (G.flipIf n b))∧w=w':=by
 cases b
 all_goals
  go_enter Tryz.func50,Tryz.ntmps50
  go_wp2_with (go_at_call 93;(with_reducible refine yI (enot_any _ _ h) ?_);rintro e w9 ⟨rfl,rfl⟩)
  go_ret
  exact ⟨rfl,rfl⟩
theorem eof_any (n:Nat) (b:Bool) (h:n<4194304):Calls Tryz.prog 54 #[nv n,.bool b] w fun e w'=>e=.returned (nv (G.edge n b))∧w=w':=by
 have h0:max (n:Int) 0=(n:Int):=by omega
 have h1:2 * (n:Int)=((2 * n:Nat):Int):=by omega
 have hfl:=Xg w (2 * n) b (by omega)
 unfold G.edge
 generalize 2 * n=m at *
 go_enter Tryz.func54,Tryz.ntmps54
 go_wp2_with (go_at_call 50;(try simp only [h1]);(with_reducible refine yI hfl ?_);rintro e w9 ⟨rfl,rfl⟩)
 go_ret
 exact ⟨rfl,rfl⟩
theorem enorm_any (lo hi:Nat) (hl:lo<4611686018427387904) (hh:hi<4611686018427387904):Calls Tryz.prog 133 #[nv lo,nv hi] w fun e w'=>e=.returned (.tuple #[nv (G.flipIf lo (hi % 2 == 1)),nv (G.flipIf hi (hi % 2 == 1)),.bool (hi % 2 == 1)])∧w=w':=by
 generalize hb:(hi % 2 == 1)=b
 have hneg:=eneg_any w hi
 rw [hb] at hneg
 go_enter Tryz.func133,Tryz.ntmps133
 go_wp2_with (first|(go_at_call 51;(with_reducible refine yI hneg ?_);rintro e w9 ⟨rfl,rfl⟩)|(go_at_call 50;first|((with_reducible refine yI (Xg _ _ _ hl) ?_);rintro e w9 ⟨rfl,rfl⟩)|((with_reducible refine yI (Xg _ _ _ hh) ?_);rintro e w9 ⟨rfl,rfl⟩)))
 go_ret3
 exact ⟨rfl,rfl⟩
end
end
section
open Go.RowKit
theorem Ye:Kz Tryz.prog 217=some false:=by kernel_rfl
theorem kE:Key Tryz.prog 204 ekey:=key_ekey Tryz.underlying204 Tryz.underlying102 (by kernel_rfl) (by kernel_rfl)
structure En where
 lo:Int
 hi:Int
 id:Int
 b:Nat
def En.row (e:En):Rw (Int × Int):=⟨(e.lo,e.hi),.int .i64 e.id,e.b⟩
def rows (es:List En):List (Rw (Int × Int)):=es.map En.row
def findE (es:List En) (lo hi:Int):Option Int:=(es.find? fun e=>decide ((e.lo,e.hi)=(lo,hi))).map (·.id)
theorem getR_rows (es:List En) (lo hi:Int):getR (rows es) (lo,hi)=(findE es lo hi).map (Value.int .i64):=by
 unfold getR rows findE
 rw [List.find?_map,Option.map_map,Option.map_map]
 rfl
def putE (es:List En) (lo hi id:Int) (c:Nat):List En:=es ++ [⟨lo,hi,id,c⟩]
def cutE (es:List En) (lo hi:Int):List En:=es.filter fun e=>decide ((e.lo,e.hi)≠(lo,hi))
theorem rows_put (es:List En) (lo hi id:Int) (c:Nat):rows es ++ [⟨(lo,hi),.int .i64 id,c⟩]=rows (putE es lo hi id c):=by
 unfold rows putE;simp [En.row]
theorem rows_cut (es:List En) (lo hi:Int):delR (rows es) (lo,hi)=rows (cutE es lo hi):=by
 unfold delR rows cutE
 rw [List.filter_map]
 rfl
def tbv (g M:Nat):PH:=PH.one g (.cells #[.map (some M)] 219)
def tbm (M:Nat) (es:List En) (c:Nat):PH:=PH.one M (Qu ekey (rows es) c)
structure TbIn (I:PH) (g M:Nat) (es:List En) (c:Nat):Prop where
 v:I.at g 0=some (.map (some M))
 m:I M=some (Qu ekey (rows es) c)
theorem TbIn.le {I J:PH} {g M:Nat} {es:List En} {c:Nat} (h:TbIn I g M es c) (hJ:I.le J):TbIn J g M es c:=⟨PH.at_le hJ h.v,hJ _ _ h.m⟩
theorem Sat.tb {E w:World} {I:PH} {ms:List PH} {g M:Nat} {es:List En} {c:Nat} (hS:Sat E I ms w) (h1:tbv g M ∈ ms) (h2:tbm M es c ∈ ms):TbIn (Qa w) g M es c :=
 ⟨PH.at_le (hS.own _ h1) (by simp [PH.at,PH.one_self,tbv]),hS.own _ h2 _ _ (PH.one_self _ _)⟩
theorem new_any (E w:World) (I:PH) (ms:List PH) (hS:Sat E I ms w) :
  Calls Tryz.prog 115 #[] w fun e w'=>∃ g M,e=.returned (.pointer (some ⟨g,0,none⟩))∧Sat E I (tbv g M::tbm M [] 0::ms) w':=by
 go_enter Tryz.func115,Tryz.ntmps115
 go_wp2_with (first|((with_reducible refine isMakeMap ?_);refine mkM ekey hS rfl rfl ?_;clear hS;intro M w hS;(try simp only [Act.put,zE,zF,zG]))|((with_reducible refine Qc ?_);  ((with_reducible refine isBox ?_);refine bx hS rfl rfl rfl ?_;clear hS;intro X w hS;(try simp only [Act.eval,zD,zC,zA,zB,zJ,Value.cells] at hS);(try simp only [Act.put,zE,zF,zG])) ))
 go_ret
 exact ⟨_,_,rfl,hS⟩
theorem find_any (w:World) (g M:Nat) (es:List En) (c:Nat) (lo hi:Int) (h:TbIn (Qa w) g M es c) :
  Calls Tryz.prog 134 #[.pointer (some ⟨g,0,none⟩),.int .i64 lo,.int .i64 hi] w fun e w'=>e=.returned (.tuple #[.int .i64 ((findE es lo hi).getD 0),.bool (findE es lo hi).isSome])∧w=w':=by
 have hS:=Sat.start w
 have H1:=h.v
 have H2:=yH h.m
 have hq:=getR_rows es lo hi
 generalize rows es=l at *
 cases hf:findE es lo hi with
 | none =>
   rw [hf] at hq
   have Hq:=yH hq
   clear hq hf h
   go_enter Tryz.func134,Tryz.ntmps134
   go_wp2_with (first|((with_reducible refine Zo ?_);refine lk2 (x:=(lo,hi)) hS (.inl (PH.le.refl _)) H2.out kE Tryz.underlying217 ty_z3 rfl rfl rfl rfl Hq.out ?_;simp only [Option.map_none,Option.getD_none,Option.isSome_none];(try simp only [Act.put,zE,zF,zG]))|((with_reducible refine Qc ?_);  ((with_reducible refine Qb ?_);( ((refine' Ka (v:=_) hS rfl rfl ?ha rfl ?hb ?_);(case ha=>exact Ye);(case hb=>assumption)));(try simp only [Act.put,zE,zF,zG])) ))
   go_ret2
   exact ⟨rfl,rfl⟩
 | some i =>
   rw [hf] at hq
   have Hq:=yH hq
   clear hq hf h
   go_enter Tryz.func134,Tryz.ntmps134
   go_wp2_with (first|((with_reducible refine Zo ?_);refine lk2 (x:=(lo,hi)) hS (.inl (PH.le.refl _)) H2.out kE Tryz.underlying217 ty_z3 rfl rfl rfl rfl Hq.out ?_;simp only [Option.map_some,zJ,Option.isSome_some];(try simp only [Act.put,zE,zF,zG]))|((with_reducible refine Qc ?_);  ((with_reducible refine Qb ?_);( ((refine' Ka (v:=_) hS rfl rfl ?ha rfl ?hb ?_);(case ha=>exact Ye);(case hb=>assumption)));(try simp only [Act.put,zE,zF,zG])) ))
   go_ret2
   exact ⟨rfl,rfl⟩
end
section
open Go.RowKit
theorem MapOk.pute {es:List En} {c:Nat} (h:MapOk (rows es) c) {lo hi:Int} (hf:findE es lo hi=none) (id:Int):MapOk (rows (putE es lo hi id c)) (c+1):=by
 rw [← rows_put]
 exact h.push (by rw [getR_rows,hf];rfl) _
theorem MapOk.cute {es:List En} {c:Nat} (h:MapOk (rows es) c) (lo hi:Int):MapOk (rows (cutE es lo hi)) c:=by
 rw [← rows_cut]
 exact h.del
theorem put_yes (E w:World) (I:PH) (ms:List PH) (g M:Nat) (es:List En) (c:Nat) (lo hi id:Int) (hS:Sat E I (tbv g M::tbm M es c::ms) w) (hok:MapOk (rows es) c) (hf:findE es lo hi=none) :
  Calls Tryz.prog 148 #[.pointer (some ⟨g,0,none⟩),.int .i64 lo,.int .i64 hi,.int .i64 id] w fun e w'=>e=.returned (.int .i64 0)∧Sat E I (tbv g M::tbm M (putE es lo hi id c) (c+1)::ms) w':=by
 have hq:=getR_rows es lo hi
 rw [hf] at hq
 have hr:=rows_put es lo hi id c
 unfold tbm at hS ⊢
 rw [← hr]
 clear hr hf
 generalize rows es=l at *
 have Hq:=yH hq
 have Hk:=yH hok
 clear hq hok
 unfold tbv at hS ⊢
 go_enter Tryz.func148,Tryz.ntmps148
 go_wp2_with (first|((with_reducible refine Zo ?_);refine lk2 (x:=(lo,hi)) hS (.inr (.tail _ (.head _))) (PH.one_self _ _) kE Tryz.underlying217 ty_z3 rfl rfl rfl rfl Hq.out ?_;simp only [Option.map_none,Option.getD_none,Option.isSome_none];(try simp only [Act.put,zE,zF,zG]))|((with_reducible refine isUpdate ?_);refine muNew (x:=(lo,hi)) hS 1 rfl kE Tryz.underlying217 rfl rfl rfl rfl rfl Hk.out Hq.out ?_;clear hS;intro w hS;simp only [zF,zG] at hS;(try simp only [Act.put]))|((with_reducible refine Qc ?_);  ((with_reducible refine Qb ?_);( (refine ld1 0 hS rfl rfl ?ha rfl rfl rfl ?_;(case ha=>exact Ye)) );(try simp only [Act.put,zE,zF,zG])) ))
 go_ret
 exact ⟨rfl,hS⟩
theorem put_no (E w:World) (I:PH) (ms:List PH) (g M:Nat) (es:List En) (c:Nat) (lo hi id i:Int) (hS:Sat E I (tbv g M::tbm M es c::ms) w) (hf:findE es lo hi=some i) :
  Calls Tryz.prog 148 #[.pointer (some ⟨g,0,none⟩),.int .i64 lo,.int .i64 hi,.int .i64 id] w fun e w'=>e=.returned (.int .i64 6)∧w=w':=by
 have hq:=getR_rows es lo hi
 rw [hf] at hq
 unfold tbm at hS
 clear hf
 generalize rows es=l at *
 have Hq:=yH hq
 clear hq
 unfold tbv at hS
 go_enter Tryz.func148,Tryz.ntmps148
 go_wp2_with (first|((with_reducible refine Zo ?_);refine lk2 (x:=(lo,hi)) hS (.inr (.tail _ (.head _))) (PH.one_self _ _) kE Tryz.underlying217 ty_z3 rfl rfl rfl rfl Hq.out ?_;simp only [Option.map_some,zJ,Option.isSome_some];(try simp only [Act.put,zE,zF,zG]))|((with_reducible refine Qc ?_);  ((with_reducible refine Qb ?_);( (refine ld1 0 hS rfl rfl ?ha rfl rfl rfl ?_;(case ha=>exact Ye)) );(try simp only [Act.put,zE,zF,zG])) ))
 go_ret
 exact ⟨rfl,rfl⟩
theorem cut_no (E w:World) (I:PH) (ms:List PH) (g M:Nat) (es:List En) (c:Nat) (lo hi:Int) (hS:Sat E I (tbv g M::tbm M es c::ms) w) (hf:findE es lo hi=none) :
  Calls Tryz.prog 145 #[.pointer (some ⟨g,0,none⟩),.int .i64 lo,.int .i64 hi] w fun e w'=>e=.returned (.int .i64 5)∧w=w':=by
 have hq:=getR_rows es lo hi
 rw [hf] at hq
 unfold tbm at hS
 clear hf
 generalize rows es=l at *
 have Hq:=yH hq
 clear hq
 unfold tbv at hS
 go_enter Tryz.func145,Tryz.ntmps145
 go_wp2_with (first|((with_reducible refine Zo ?_);refine lk2 (x:=(lo,hi)) hS (.inr (.tail _ (.head _))) (PH.one_self _ _) kE Tryz.underlying217 ty_z3 rfl rfl rfl rfl Hq.out ?_;simp only [Option.map_none,Option.getD_none,Option.isSome_none];(try simp only [Act.put,zE,zF,zG]))|((with_reducible refine Qc ?_);  ((with_reducible refine Qb ?_);( (refine ld1 0 hS rfl rfl ?ha rfl rfl rfl ?_;(case ha=>exact Ye)) );(try simp only [Act.put,zE,zF,zG])) ))
 go_ret
 exact ⟨rfl,rfl⟩
theorem cut_yes (E w:World) (I:PH) (ms:List PH) (g M:Nat) (es:List En) (c:Nat) (lo hi i:Int) (hS:Sat E I (tbv g M::tbm M es c::ms) w) (hok:MapOk (rows es) c) (hf:findE es lo hi=some i) :
  Calls Tryz.prog 145 #[.pointer (some ⟨g,0,none⟩),.int .i64 lo,.int .i64 hi] w fun e w'=>e=.returned (.int .i64 0)∧Sat E I (tbv g M::tbm M (cutE es lo hi) c::ms) w':=by
 have hq:=getR_rows es lo hi
 rw [hf] at hq
 have hr:=rows_cut es lo hi
 unfold tbm at hS ⊢
 rw [← hr]
 clear hr hf
 generalize rows es=l at *
 have Hq:=yH hq
 have Hk:=yH hok
 clear hq hok
 unfold tbv at hS ⊢
 go_enter Tryz.func145,Tryz.ntmps145
 go_wp2_with (first|((with_reducible refine Zo ?_);refine lk2 (x:=(lo,hi)) hS (.inr (.tail _ (.head _))) (PH.one_self _ _) kE Tryz.underlying217 ty_z3 rfl rfl rfl rfl Hq.out ?_;simp only [Option.map_some,zJ,Option.isSome_some];(try simp only [Act.put,zE,zF,zG]))|((with_reducible refine isDelete ?_);refine dl (x:=(lo,hi)) hS 1 rfl kE Tryz.underlying217 rfl rfl rfl rfl Hk.out ?_;clear hS;intro w hS;simp only [zF,zG] at hS;(try simp only [Act.put]))|((with_reducible refine Qc ?_);  ((with_reducible refine Qb ?_);( (refine ld1 0 hS rfl rfl ?ha rfl rfl rfl ?_;(case ha=>exact Ye)) );(try simp only [Act.put,zE,zF,zG])) ))
 go_ret
 exact ⟨rfl,hS⟩
end
namespace G
structure Ev where
 after:Int
 kind:Int
 level:Int
inductive Stop where
 | err (e:Nat)
 | event (ev:Ev)
inductive Rs (α:Type) where
 | ok (a:α)
 | stop (s:Stop)
structure Me where
 op:Nat
 a:Nat
 b:Nat
 c:Nat
 r:Nat
def mixH (n e:Nat):Nat :=
 let k:=(n ^^^ e) * 11400714819323198485 % 18446744073709551616
 k ^^^ (k / 536870912)
def placeH (op a b c:Nat):Nat:=mixH (mixH (mixH op a) b) c % 4096
abbrev Memo:=Nat→Option Me
def Memo.get (m:Memo) (op a b c:Nat):Option Nat :=
 match m (placeH op a b c) with
 | some e=>if e.op=op∧e.a=a∧e.b=b∧e.c=c then some e.r else none
 | none=>none
def Memo.put (m:Memo) (op a b c r:Nat):Memo:=fun i=>if i=placeH op a b c then some ⟨op,a,b,c,r⟩ else m i
def Memo.none:Memo:=fun _=>Option.none
theorem Memo.get_none {m:Memo} {op a b c:Nat} (h:m (placeH op a b c)=Option.none):m.get op a b c=Option.none:=by unfold Memo.get;rw [h]
theorem Memo.get_hit {m:Memo} {op a b c:Nat} {e:Me} (h:m (placeH op a b c)=some e) (hk:e.op=op∧e.a=a∧e.b=b∧e.c=c):m.get op a b c=some e.r:=by unfold Memo.get;rw [h];exact if_pos hk
theorem Memo.get_miss {m:Memo} {op a b c:Nat} {e:Me} (h:m (placeH op a b c)=some e) (hk:¬ (e.op=op∧e.a=a∧e.b=b∧e.c=c)):m.get op a b c=Option.none:=by unfold Memo.get;rw [h];exact if_neg hk
theorem Memo.none_at (i:Nat):Memo.none i=Option.none:=rfl
theorem Memo.none_get (op a b c:Nat):Memo.none.get op a b c=Option.none:=Memo.get_none (Memo.none_at _)
structure Mg where
 s:St
 me:Memo
 hs:List (Int × Nat)
 next:Nat
 waits:List Ev
 calls:Int
 fresh:Bool
def wrapI (n:Int):Int:=if n=9223372036854775807+1 then -9223372036854775808 else n
abbrev Step (α:Type):=Option (Mg × Rs α)
def Step.then {α β:Type} (x:Step α) (f:Mg→α→Step β):Step β :=
 match x with
 | none=>none
 | some (m,.ok a)=>f m a
 | some (m,.stop s)=>some (m,.stop s)
section
variable (m:Mg)
def Mg.of (h:Int):Option Nat:=(m.hs.find? fun p=>p.1 == h).map (·.2)
def Mg.edge (h:Int):Step Nat:=match m.of h with|some f=>some (m,.ok f)|none=>some (m,.stop (.err 8))
def Mg.mkS (v lo hi:Int):Step Nat :=
 match m.s.mkE v lo hi with
 | none=>none
 | some (s,r,e)=>if e=0 then some ({ m with s:=s },.ok r) else some ({ m with s:=s },.stop (.err e))
def Mg.mk_ (v lo hi:Int):Step Nat :=
 let m:={ m with calls:=wrapI (m.calls+1) }
 match m.waits with
 | ev::l=>if ev.after≤m.calls then some ({ m with waits:=l,calls:=0 },.stop (.event ev)) else m.mkS v lo hi
 | []=>m.mkS v lo hi
def Mg.give (f:Nat):Option (Mg × Nat):=if big≤m.next then none else (m.s.hold f).map fun (s,_)=>({ m with s:=s,hs:=m.hs ++ [((m.next:Int),f)],next:=m.next+1 },m.next)
end
def St.topE (s:St) (l:List Nat):Int × Int:=l.foldl (fun q f=>match s.at_ f with|none=>q|some (v,_,_)=>if q.1<0∨s.level v<q.2 then ((v:Int),s.level v) else q) (-1,0)
def St.splitI (s:St) (f:Nat) (v:Int):Nat × Nat:=match s.at_ f with|none=>(f,f)|some (w,a,b)=>if (w:Int)=v then (a,b) else (f,f)
def iteE (f g h:Nat):Nat ⊕ (Nat × Nat × Nat × Bool) :=
 let g:=if g=f then 0 else if g=flip f then 1 else g
 let h:=if h=f then 1 else if h=flip f then 0 else h
 if f=0∨g=h then .inl g
 else if f=1 then .inl h
 else if g=0∧h=1 then .inl f
 else if g=1∧h=0 then .inl (flip f)
 else
  let (f,g,h):=if f % 2=1 then (flip f,h,g) else (f,g,h)
  .inr (f,flipIf g (g % 2 == 1),flipIf h (g % 2 == 1),g % 2 == 1)
def iteN:Nat→Bool→Nat→Nat→Nat→Bool × (Nat ⊕ (Nat × Nat × Nat))
 | 0,t,f,g,h=>(t,.inr (f,g,h))
 | k+1,t,f,g,h =>
   match iteE f g h with
   | .inl r=>(t,.inl r)
   | .inr (a,b,c,n)=>if a=f∧b=g∧c=h then (t ^^ n,.inr (f,g,h)) else iteN k (t ^^ n) a b c
def Mg.ite:Nat→Mg→Nat→Nat→Nat→Step Nat
 | 0,_,_,_,_=>none
 | k+1,m,f,g,h =>
   match iteN 3 false f g h with
   | (t,.inl r)=>some (m,.ok (flipIf r t))
   | (t,.inr (f,g,h)) =>
     match m.me.get 1 f g h with
     | some r=>some (m,.ok (flipIf r t))
     | none =>
       let v:=(m.s.topE [f,g,h]).1
       (Mg.ite k m (m.s.splitI f v).1 (m.s.splitI g v).1 (m.s.splitI h v).1).then fun m' lo =>
       (Mg.ite k m' (m.s.splitI f v).2 (m.s.splitI g v).2 (m.s.splitI h v).2).then fun m' hi =>
       (m'.mk_ v lo hi).then fun m' r=>some ({ m' with me:=m'.me.put 1 f g h r },.ok (flipIf r t))
def downTo (i n:Nat):List Nat:=(List.range n).map fun k=>i+(n - 1 - k)
def stepsP:Nat→List Nat→List Nat→List Nat
 | _,[],_=>[]
 | i,v::b,now=>downTo i (now.idxOf v - i) ++ stepsP (i+1) b ((now.eraseIdx (now.idxOf v)).insertIdx i v)
def St.swaps (s:St):List Nat→Option St
 | []=>some s
 | k::l=>(s.swap k).bind fun (s',_)=>St.swaps s' l
def Mg.happen (m:Mg) (ev:Ev):Option Mg :=
 if ev.kind=1 then m.s.collect.map fun (s,_)=>{ m with s:=s,me:=Memo.none }
 else if ev.kind=2 then (m.s.swap ev.level).map fun (s,_)=>{ m with s:=s,me:=Memo.none }
 else (m.s.swaps (stepsP 0 m.s.vars.reverse m.s.vars)).map fun s=>{ m with s:=s,me:=Memo.none }
def Mg.collect (m:Mg):Option (Mg × Nat):=m.s.collect.map fun (s,n)=>({ m with s:=s,me:=Memo.none },n)
def Mg.swap (m:Mg) (level:Int):Option (Mg × Nat):=(m.s.swap level).map fun (s,e)=>({ m with s:=s,me:=Memo.none },e)
def Mg.run {α:Type} (F:Mg→Step α):Nat→Bool→Mg→Option (Mg × (α ⊕ Nat))
 | 0,_,_=>none
 | k+1,room,m =>
   match F m with
   | none=>none
   | some (m',.ok a)=>some (m',.inl a)
   | some (m',.stop (.event ev))=>(m'.happen ev).bind (Mg.run F k false)
   | some (m',.stop (.err e))=>if e=7∧room=false then m'.collect.bind fun (m'',_)=>Mg.run F k true m'' else some (m',.inr e)
def Mg.do_ (m:Mg) (F:Mg→Step Nat):Option (Mg × Nat × Nat) :=
 match Mg.run F fuel false m with
 | none=>none
 | some (m',.inr e)=>some (m',0,e)
 | some (m',.inl f)=>if m'.s.is f then (m'.give f).map fun (m'',h)=>(m'',h,0) else some (m',0,8)
def Mg.look {α:Type} (m:Mg) (F:Mg→Step α):Option (Mg × (α ⊕ Nat)):=Mg.run F fuel false m
def Mg.var_ (m:Mg) (v:Int):Option (Mg × Nat × Nat):=if m.s.level v<0 then some (m,0,9) else m.do_ fun m=>m.mk_ v 1 0
def Mg.copy (m:Mg) (h:Int):Option (Mg × Nat × Nat):=match m.of h with|none=>some (m,0,8)|some f=>(m.give f).map fun (m',h)=>(m',h,0)
def Mg.drop (m:Mg):List Int→Option (Mg × Nat)
 | []=>some (m,0)
 | h::l=>match m.of h with
   | none=>some (m,8)
   | some f=>if 1<h then (m.s.drop f).bind fun (s,_)=>Mg.drop { m with s:=s,hs:=m.hs.filter fun p=>p.1 != h } l else Mg.drop m l
def Mg.same (m:Mg) (f g:Int):Bool × Nat:=match m.of f,m.of g with|some a,some b=>(a == b,0)|_,_=>(false,8)
def Mg.iteH (m:Mg) (f g h:Int):Option (Mg × Nat × Nat):=m.do_ fun m=>(m.edge f).then fun m a=>(m.edge g).then fun m b=>(m.edge h).then fun m c=>m.ite fuel a b c
def St.evalE:Nat→St→Nat→List Bool→Option Bool
 | 0,_,_,_=>none
 | k+1,s,f,l=>if f / 2=0 then some (f == 0) else match s.at_ f with|none=>none|some (v,a,b)=>St.evalE k s (if l.getD v false then b else a) l
def Mg.eval (m:Mg) (h:Int) (l:List Bool):Option (Bool × Nat):=match m.of h with|none=>some (false,8)|some f=>(m.s.evalE fuel f l).map fun b=>(b,0)
def Mg.new (vars room:Nat):Mg:=⟨St.new vars room,Memo.none,[(0,1),(1,0)],2,[],0,true⟩
end G
end Go.Proofs.YtidamcdklgfogaaGreat
