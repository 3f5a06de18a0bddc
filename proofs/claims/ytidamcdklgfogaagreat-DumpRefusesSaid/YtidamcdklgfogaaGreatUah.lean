import Derived.Test.YtidamcdklgfogaaGreatUag
import Derived.OwnWalk
import Derived.Lib.Walk
set_option linter.unusedVariables false
set_option linter.unusedSimpArgs false
set_option maxRecDepth 100000
set_option maxHeartbeats 30000000
namespace Go.Proofs.YtidamcdklgfogaaGreat
section
open Go.RowKit
theorem nd0_one:∀u∈(Value.cells (.agg node0)).toList,u.oneCell'=true:=by simp[Value.cells,Value.oneCell',node0]
theorem pgive_any(E w:World)(I m:PH)(ms:List PH)(P:Nat)(p:G.Pl)(id:Nat)(old:G.Nd)(hn:p.nd id=some old)(hfl:p.free.length<p.slots.length)(hP:PoolAt P p m)(hS:Sat E I (m::ms) w) :
  Calls Tryz.prog 155 #[.pointer (some ⟨P,0,none⟩),nv id] w λe w'=>e=.returned (.int .i64 0)/\∃m',PoolAt P (p.give id) m'/\Sat E I (m'::ms) w':=by
 have hR:=hP.read;obtain⟨hf,A,cA,T,cT,vF,mA,mT,mF,hbd,hA,hT,hF⟩:=hP;obtain⟨g1,g2⟩:=G.Pl.nd_some.1 hn;have hlt:=(yE.1 g2).1;have his:p.isI (id:Int)=true:=G.Pl.isI_of g1 g2;have hgive:p.give id={ p with slots:=p.slots.set id none,free:=p.free++[id] }:=by unfold G.Pl.give;rw[jAb (by rw[hn];rfl)]
 have hmany:=G.many_set_none g2;have hml:=G.many_le p.slots;have hlen:=hf.len;have hroom:=hf.room;have hfin:∀m1 m2 m3 F cF,OwnP m1 194 5 (.slice (some ⟨A,0,none⟩) p.slots.length cA) p.slots.length (spl (p.slots.zipIdx.flatMap ndC) (id*5) node0.toList)->OwnP m2 4 1 (.slice (some ⟨T,0,none⟩) p.slots.length cT) p.slots.length (spl (p.slots.flatMap tkC) id [.bool false]) ->
   OwnP m3 3 1 (.slice F (p.free.length+1) cF) (p.free.length+1) (p.free.flatMap ivC++[nv id]) ->
   ∀w',Sat E I (PH.one P (.cells #[nv p.room,.slice (some ⟨A,0,none⟩) p.slots.length cA,.slice (some ⟨T,0,none⟩) p.slots.length cT,.slice F (p.free.length+1) cF,.int .i64 ((G.many p.slots:Int)-1)] 216)::m1::m2::m3::ms) w'->∃m',PoolAt P (p.give id) m'/\Sat E I (m'::ms) w':=λm1 m2 m3 F cF hO1 hO2 hO3 w' hS'=>by
  obtain⟨m4,hb2,hS2⟩:=Sat.pack [PH.one P (.cells #[nv p.room,.slice (some ⟨A,0,none⟩) p.slots.length cA,.slice (some ⟨T,0,none⟩) p.slots.length cT,.slice F (p.free.length+1) cF,.int .i64 ((G.many p.slots:Int)-1)] 216),m1,m2,m3] hS';rw[hgive];refine⟨m4,⟨hf.set (λ_ h=>by cases h) (by simp;omega),A,cA,T,cT,.slice F (p.free.length+1) cF,m1,m2,m3,?_,?_,?_,?_⟩,hS2⟩
  . simp only[plV,jJa]
    rw[show nv (G.many (p.slots.set id none))=.int .i64 ((G.many p.slots:Int)-1) by simp only[nv];congr 1;omega];exact hb2
  . simp only[jJa]
    rw[<- zip_flat_set _ _ hlt];exact hO1
  . simp only[jJa]
    rw[<- flat_set tkC_len _ _ hlt,jG];exact hO2
  . simp only[yG,yB,yC,jNb]
    exact hO3
 have Hfin:=yH hfin;have HR:=yH hR;have HOA:=yH hA;have HOT:=yH hT;have HOF:=yH hF;have hall:∀(E' w':World) (J:PH) (ms':List PH),Sat E' J ms' w'->(∀q∈[PH.one P (.cells (plV p A cA T cT vF) 216),mA,mT,mF],q∈ms')->PoolR (Qa w') P p:=λ_ _ _ _ h hl=>by
  have:=h.all_le hl;rw[<- hbd.1] at this;exact HR.out.le this
 have Hall:=yH hall;obtain⟨nF,cF,hvF,_⟩:=hF.shape;subst hvF;have hS:=Sat.unpack hbd hS;clear hfin hA hT hF hf hbd hall hR HR hgive hn g2;simp only[List.cons_append,List.nil_append] at hS;go_enter Tryz.func155,Tryz.ntmps155;go_wp2_with ( (go_at_call 152;with_reducible refine bC (is_any (Hall.out _ _ _ _ hS (by simp)) _) ?_;rw[his]) )
 obtain⟨I2,l12,lP,hS2,bP⟩:=hS.ice;have iP1:I2.at P 1=some (.slice (some ⟨A,0,none⟩) p.slots.length cA):=PH.at_le lP (Qb rfl);have iP2:I2.at P 2=some (.slice (some ⟨T,0,none⟩) p.slots.length cT):=PH.at_le lP (Qb rfl);have HbP:=yH bP;clear hS bP lP l12 Hall;refine Qf [[],[0],[0,1],[0,1,2],[],[],[5],[5,6],[5,6,7],[],[],[0,1,2,3,4,5,6,7,8,10],[0,1,2,3,4,5,6,7,8,10,11],[0,1,2,3,4,5,6,7,8,9,10,11,12],[0,1,2,3,4,5,6,7,8,9,10,11,12,13]] E I2 _
  [λv _=>v=vPt P,λv _=>v=vPt P,λv _=>v=.pointer (some ⟨P,1,none⟩),λv _=>v=.slice (some ⟨A,0,none⟩) p.slots.length cA,λv _=>v=nv id,λv _=>v=vPt P,λv _=>v=vPt P,λv _=>v=.pointer (some ⟨P,2,none⟩),λv _=>v=.slice (some ⟨T,0,none⟩) p.slots.length cT,λv _=>v=nv id,λv _=>v=.agg node0,λv _=>v=.pointer (some ⟨A,id*5,none⟩),λ_ _=>True,λv _=>v=.pointer (some ⟨T,id,none⟩),λ_ _=>True] [12,14]
  (set2G _ 0 1 (λm'=>OwnP m' 194 5 (.slice (some ⟨A,0,none⟩) p.slots.length cA) p.slots.length (spl (p.slots.zipIdx.flatMap ndC) (id*5) node0.toList)) (λm'=>OwnP m' 4 1 (.slice (some ⟨T,0,none⟩) p.slots.length cT) p.slots.length (spl (p.slots.flatMap tkC) id [.bool false]))) (by kernel_rfl) (by kernel_rfl) (by decide) hS2 rfl ?last (λ_ _ _ _ _ _ h=>h) (λ_ _ _ _ _ _ h=>h) ?plain ?step ?fin
 case last=>exact bL
 case plain=>(repeat' (first|exact trivial|apply And.intro)) <;> first|exact .inl rfl|(refine .inr ?_;intro s vals J bs w hstop hg hJ hS hG;clear hG;refine bS ?_;intro K HK;(first|(refine bJ ?_)|(go_wp2_with (fail)));exact bO)
 case step =>
  refine⟨⟨trivial,?_⟩,?_⟩
  . intro vals J bs w hg hJ hS hG
    have hG:bs=_:=hG;subst hG;refine bS ?_;intro K HK;refine Zz (i:=id) hS 0 rfl rfl rfl rfl HOA.out rfl hlt Qz rfl nd0_one λm' w hO' hS=>?_
    exact HK.out _ _ ⟨rfl,J,_,PH.le.refl _,hS,trivial,m',hO',rfl⟩
  . intro vals J bs w hg hJ hS hG
    refine Veil.out ?_;obtain⟨mm,hmm,hG⟩:=hG;subst hG;refine⟨?_⟩;refine bS ?_;intro K HK;refine Zz (i:=id) hS 1 rfl rfl rfl rfl HOT.out (jG id).symm hlt ty_sz4 rfl (bool_one false) λm' w hO' hS=>?_
    exact HK.out _ _ ⟨rfl,J,_,PH.le.refl _,hS,trivial,mm,m',hmm,hO',rfl⟩
 case fin =>
  intro vals J bs w hJ hg hS hG;obtain⟨m1,m2,hO1,hO2,hns⟩:=hG;subst hns;have hS:=hS.less hJ;have hS:=HbP.out _ _ hS;have HO1:=yH hO1;have HO2:=yH hO2;clear hO1 hO2 HbP iP1 iP2;refine bH ?_;clear hg;simp only[zF,zG] at hS;have m0:(0:Int)<(G.many p.slots:Int):=by omega
  go_wp2_with (first|((with_reducible refine isAppend ?_);(refine' apP (p:=_) (m:=_) (v:=_) (n:=_) (xs:=_) (news:=_) 4 (.inr (List.Mem.head _)) hS rfl rfl rfl Tryz.underlying23 Ko rfl (by decide) rfl HOF.out rfl ?hl ?hcl ?h1 ?h63 ?hby ?_);(case hcl=>exact Cells.one _ _ _ _);(case hl=>rfl);(case h1=>rfl);(case h63=>(unfold maxLen;omega));(case hby=>omega);clear hS;intro v1 m3 w hO3 hS;refine Veil.out ?_;obtain⟨F,cF2,rfl,_⟩:=OwnP.shape hO3;refine⟨?_⟩;have HO3:=yH hO3;clear hO3;(try simp only[zF,zG] at hS);refine aM ?_)|(refine aL ?_)|(refine aS ?_;clear hS;intro w hS)|(refine aY ?_;clear hS;intro XS w hS))
  go_ret;exact⟨rfl,Hfin.out _ _ _ _ _ HO1.out HO2.out HO3.out _ hS.drop⟩
end
section
open Go.RowKit
theorem nat_xor_one(n:Nat):n ^^^ 1=G.flip n:=by
 have h1:(n ^^^ 1)/2=n/2:=by rw[Nat.xor_div_two];simp
 have h2:(n ^^^ 1)%2=(n%2+1)%2:=by
  have:=Nat.xor_mod_two_eq_one (a:=n) (b:=1);omega
 unfold G.flip;split <;> omega
theorem bits_xor_i64_nat(a b:Nat)(ha:a<4611686018427387904)(hb:b<4611686018427387904):bits .xor .i64 a b=((a ^^^ b:Nat):Int):=by
 have hp:2^62<=2^64:=by decide
 have ha':a%2^64=a:=kJ (by omega);have hb':b%2^64=b:=kJ (by omega);have hx:a ^^^ b<4611686018427387904:=Nat.xor_lt_two_pow (n:=62) (by omega) (by omega);have e:IntKind.i64.bits=64:=rfl;simp only[bits,BitVec.ofInt_natCast,BitVec.toNat_xor,BitVec.toNat_ofNat,e,ha',hb'];rw[IntKind.wrap_i64];omega
theorem xor1n(n:Nat)(h:n<4611686018427387904):bits .xor .i64 (n:Int) 1=((G.flip n:Nat):Int):=by
 rw[show (1:Int)=((1:Nat):Int) from rfl,bits_xor_i64_nat _ _ h (by omega),nat_xor_one]
theorem flip_lt{n:Nat}(h:n<4611686018427387904):G.flip n<4611686018427387904:=by unfold G.flip;split <;> omega
theorem Kh{n:Nat}(h:n<4611686018427387904)(b:Bool):G.flipIf n b<4611686018427387904:=by unfold G.flipIf;split;exact flip_lt h;exact h
section
variable(w:World)
theorem enot_any(n:Nat)(h:n<4611686018427387904):Calls Tryz.prog 93 #[nv n] w λe w'=>e=.returned (nv (G.flip n))/\w=w':=by
 have hx:=xor1n n h;go_enter Tryz.func93,Tryz.ntmps93;go_wp2
 go_ret;exact⟨rfl,rfl⟩
theorem eneg_any(n:Nat):Calls Tryz.prog 51 #[nv n] w λe w'=>e=.returned (.bool (n%2==1))/\w=w':=by
 by_cases h:n=0
 . subst h
   go_enter Tryz.func51,Tryz.ntmps51;go_wp2
   go_ret;exact⟨rfl,rfl⟩
 . have h0:(0:Int)<(n:Int):=by omega
   have h2:((n:Int)%2==1)=(n%2==1):=by
    rcases jKa n with h|h <;> (simp[h];omega)
   go_enter Tryz.func51,Tryz.ntmps51;go_wp2
   go_ret;exact⟨rfl,rfl⟩
theorem Xs(n:Nat)(h:n<9223372036854775808):Calls Tryz.prog 49 #[nv n] w λe w'=>e=.returned (nv (n/2))/\w=w':=by
 have h0:max (n:Int) 0=(n:Int):=by omega
 have h1:wrap64 ((n:Int)/2)=((n/2:Nat):Int):=by unfold wrap64;omega
 go_enter Tryz.func49,Tryz.ntmps49;go_wp2
 go_ret;exact⟨jNa (λb=>Ending.returned (.int .i64 b)) (by omega),rfl⟩
theorem Zn(n:Nat)(b:Bool)(h:n<4611686018427387904):Calls Tryz.prog 50 #[nv n,.bool b] w λe w'=>e=.returned (nv (G.flipIf n b))/\w=w':=by
 cases b
 all_goals
  go_enter Tryz.func50,Tryz.ntmps50;go_wp2_with (go_at_call 93;with_reducible refine bC (enot_any _ _ h) ?_)
  go_ret;exact⟨rfl,rfl⟩
theorem eof_any(n:Nat)(b:Bool)(h:n<4194304):Calls Tryz.prog 54 #[nv n,.bool b] w λe w'=>e=.returned (nv (G.edge n b))/\w=w':=by
 have h0:max (n:Int) 0=(n:Int):=by omega
 have h1:2*(n:Int)=((2*n:Nat):Int):=by omega
 have hfl:=Zn w (2*n) b (by omega);unfold G.edge;generalize 2*n=m at *
 go_enter Tryz.func54,Tryz.ntmps54;go_wp2_with (go_at_call 50;(with_reducible refine yI hfl ?_);rintro e w9 ⟨rfl,rfl⟩)
 go_ret;exact⟨rfl,rfl⟩
theorem enorm_any(lo hi:Nat)(hl:lo<4611686018427387904)(hh:hi<4611686018427387904):Calls Tryz.prog 133 #[nv lo,nv hi] w λe w'=>e=.returned (.tuple #[nv (G.flipIf lo (hi%2==1)),nv (G.flipIf hi (hi%2==1)),.bool (hi%2==1)])/\w=w':=by
 generalize hb:(hi%2==1)=b;have hneg:=eneg_any w hi;rw[hb] at hneg;go_enter Tryz.func133,Tryz.ntmps133;go_wp2_with (first|(go_at_call 51;(with_reducible refine yI hneg ?_);rintro e w9 ⟨rfl,rfl⟩)|(go_at_call 50;first|(with_reducible refine bC (Zn _ _ _ hl) ?_)|(with_reducible refine bC (Zn _ _ _ hh) ?_)))
 go_ret3;exact⟨rfl,rfl⟩
end
end
section
open Go.RowKit
theorem ty_agg217:Ky Tryz.prog 217=some false:=by kernel_rfl
theorem kE:Key Tryz.prog 204 ekey:=key_ekey Tryz.underlying204 Tryz.underlying102 (by kernel_rfl) (by kernel_rfl)
structure En where
 lo:Int
 hi:Int
 id:Int
 b:Nat
def En.row(e:En):Rw (Int×Int):=⟨(e.lo,e.hi),.int .i64 e.id,e.b⟩
def rows(es:List En):List (Rw (Int×Int)):=es.map En.row
def findE(es:List En)(lo hi:Int):Option Int:=(es.find? λe=>decide ((e.lo,e.hi)=(lo,hi))).map (·.id)
theorem getR_rows(es:List En)(lo hi:Int):getR (rows es) (lo,hi)=(findE es lo hi).map (Value.int .i64):=by
 unfold getR rows findE;rw[List.find?_map,Option.map_map,Option.map_map];rfl
def putE(es:List En)(lo hi id:Int)(c:Nat):List En:=es++[⟨lo,hi,id,c⟩]
def cutE(es:List En)(lo hi:Int):List En:=es.filter λe=>decide ((e.lo,e.hi)≠(lo,hi))
theorem rows_put(es:List En)(lo hi id:Int)(c:Nat):rows es++[⟨(lo,hi),.int .i64 id,c⟩]=rows (putE es lo hi id c):=by
 unfold rows putE;simp[En.row]
theorem rows_cut(es:List En)(lo hi:Int):delR (rows es) (lo,hi)=rows (cutE es lo hi):=by
 unfold delR rows cutE;rw[List.filter_map];rfl
def tbv(g M:Nat):PH:=PH.one g (.cells #[.map (some M)] 219)
def tbm(M:Nat)(es:List En)(c:Nat):PH:=PH.one M (Qj ekey (rows es) c)
structure TbIn (I:PH) (g M:Nat) (es:List En) (c:Nat):Prop where
 v:I.at g 0=some (.map (some M))
 m:I M=some (Qj ekey (rows es) c)
theorem TbIn.le{I J:PH}{g M:Nat}{es:List En}{c:Nat}(h:TbIn I g M es c)(hJ:I.le J):TbIn J g M es c:=⟨PH.at_le hJ h.v,hJ _ _ h.m⟩
theorem Sat.tb{E w:World}{I:PH}{ms:List PH}{g M:Nat}{es:List En}{c:Nat}(hS:Sat E I ms w)(h1:tbv g M∈ms)(h2:tbm M es c∈ms):TbIn (Qa w) g M es c :=
 ⟨PH.at_le (hS.own _ h1) (by simp[PH.at,PH.one_self,tbv]),hS.own _ h2 _ _ (PH.one_self _ _)⟩
theorem new_any(E w:World)(I:PH)(ms:List PH)(hS:Sat E I ms w) :
  Calls Tryz.prog 115 #[] w λe w'=>∃g M,e=.returned (.pointer (some ⟨g,0,none⟩))/\Sat E I (tbv g M::tbm M [] 0::ms) w':=by
 go_enter Tryz.func115,Tryz.ntmps115;go_wp2_with (first|((with_reducible refine isMakeMap ?_);refine mkM ekey hS rfl rfl ?_;clear hS;intro M w hS;refine aM ?_)|(refine aX ?_;clear hS;intro X w hS))
 go_ret;exact⟨_,_,rfl,hS⟩
theorem find_any(w:World)(g M:Nat)(es:List En)(c:Nat)(lo hi:Int)(h:TbIn (Qa w) g M es c) :
  Calls Tryz.prog 134 #[.pointer (some ⟨g,0,none⟩),.int .i64 lo,.int .i64 hi] w λe w'=>e=.returned (.tuple #[.int .i64 ((findE es lo hi).getD 0),.bool (findE es lo hi).isSome])/\w=w':=by
 have hS:=Sat.start w;have H1:=h.v;have H2:=yH h.m;have hq:=getR_rows es lo hi;generalize rows es=l at *
 cases hf:findE es lo hi with
 | none =>
   rw[hf] at hq;have Hq:=yH hq;clear hq hf h;go_enter Tryz.func134,Tryz.ntmps134;go_wp2_with (first|((with_reducible refine Kb ?_);refine lk2 (x:=(lo,hi)) hS (.inl (PH.le.refl _)) H2.out kE Tryz.underlying217 ty_z3 rfl rfl rfl rfl Hq.out ?_;simp only[Option.map_none,Option.getD_none,Option.isSome_none];refine aM ?_)|(refine aL ?_))
   go_ret2;exact⟨rfl,rfl⟩
 | some i =>
   rw[hf] at hq;have Hq:=yH hq;clear hq hf h;go_enter Tryz.func134,Tryz.ntmps134;go_wp2_with (first|((with_reducible refine Kb ?_);refine lk2 (x:=(lo,hi)) hS (.inl (PH.le.refl _)) H2.out kE Tryz.underlying217 ty_z3 rfl rfl rfl rfl Hq.out ?_;simp only[Option.map_some,zJ,Option.isSome_some];refine aM ?_)|(refine aL ?_))
   go_ret2;exact⟨rfl,rfl⟩
end
section
open Go.RowKit
theorem MapOk.pute{es:List En}{c:Nat}(h:MapOk (rows es) c){lo hi:Int}(hf:findE es lo hi=none)(id:Int):MapOk (rows (putE es lo hi id c)) (c+1):=by
 rw[<- rows_put];exact h.push (by rw[getR_rows,hf];rfl) _
theorem MapOk.cute{es:List En}{c:Nat}(h:MapOk (rows es) c)(lo hi:Int):MapOk (rows (cutE es lo hi)) c:=by
 rw[<- rows_cut];exact h.del
theorem put_yes(E w:World)(I:PH)(ms:List PH)(g M:Nat)(es:List En)(c:Nat)(lo hi id:Int)(hS:Sat E I (tbv g M::tbm M es c::ms) w)(hok:MapOk (rows es) c)(hf:findE es lo hi=none) :
  Calls Tryz.prog 148 #[.pointer (some ⟨g,0,none⟩),.int .i64 lo,.int .i64 hi,.int .i64 id] w λe w'=>e=.returned (.int .i64 0)/\Sat E I (tbv g M::tbm M (putE es lo hi id c) (c+1)::ms) w':=by
 have hq:=getR_rows es lo hi;rw[hf] at hq;have hr:=rows_put es lo hi id c;unfold tbm at hS ⊢;rw[<- hr];clear hr hf;generalize rows es=l at *
 have Hq:=yH hq;have Hk:=yH hok;clear hq hok;unfold tbv at hS ⊢;go_enter Tryz.func148,Tryz.ntmps148;go_wp2_with (first|((with_reducible refine Kb ?_);refine lk2 (x:=(lo,hi)) hS (.inr (.tail _ (.head _))) (PH.one_self _ _) kE Tryz.underlying217 ty_z3 rfl rfl rfl rfl Hq.out ?_;simp only[Option.map_none,Option.getD_none,Option.isSome_none];refine aM ?_)|((with_reducible refine isUpdate ?_);refine muNew (x:=(lo,hi)) hS 1 rfl kE Tryz.underlying217 rfl rfl rfl rfl rfl Hk.out Hq.out ?_;clear hS;intro w hS;simp only[zF,zG] at hS;(try simp only[Act.put]))|(refine aL ?_))
 go_ret;exact⟨rfl,hS⟩
theorem put_no(E w:World)(I:PH)(ms:List PH)(g M:Nat)(es:List En)(c:Nat)(lo hi id i:Int)(hS:Sat E I (tbv g M::tbm M es c::ms) w)(hf:findE es lo hi=some i) :
  Calls Tryz.prog 148 #[.pointer (some ⟨g,0,none⟩),.int .i64 lo,.int .i64 hi,.int .i64 id] w λe w'=>e=.returned (.int .i64 6)/\w=w':=by
 have hq:=getR_rows es lo hi;rw[hf] at hq;unfold tbm at hS;clear hf;generalize rows es=l at *
 have Hq:=yH hq;clear hq;unfold tbv at hS;go_enter Tryz.func148,Tryz.ntmps148;go_wp2_with (first|((with_reducible refine Kb ?_);refine lk2 (x:=(lo,hi)) hS (.inr (.tail _ (.head _))) (PH.one_self _ _) kE Tryz.underlying217 ty_z3 rfl rfl rfl rfl Hq.out ?_;simp only[Option.map_some,zJ,Option.isSome_some];refine aM ?_)|(refine aL ?_))
 go_ret;exact⟨rfl,rfl⟩
theorem cut_no(E w:World)(I:PH)(ms:List PH)(g M:Nat)(es:List En)(c:Nat)(lo hi:Int)(hS:Sat E I (tbv g M::tbm M es c::ms) w)(hf:findE es lo hi=none) :
  Calls Tryz.prog 145 #[.pointer (some ⟨g,0,none⟩),.int .i64 lo,.int .i64 hi] w λe w'=>e=.returned (.int .i64 5)/\w=w':=by
 have hq:=getR_rows es lo hi;rw[hf] at hq;unfold tbm at hS;clear hf;generalize rows es=l at *
 have Hq:=yH hq;clear hq;unfold tbv at hS;go_enter Tryz.func145,Tryz.ntmps145;go_wp2_with (first|((with_reducible refine Kb ?_);refine lk2 (x:=(lo,hi)) hS (.inr (.tail _ (.head _))) (PH.one_self _ _) kE Tryz.underlying217 ty_z3 rfl rfl rfl rfl Hq.out ?_;simp only[Option.map_none,Option.getD_none,Option.isSome_none];refine aM ?_)|(refine aL ?_))
 go_ret;exact⟨rfl,rfl⟩
theorem cut_yes(E w:World)(I:PH)(ms:List PH)(g M:Nat)(es:List En)(c:Nat)(lo hi i:Int)(hS:Sat E I (tbv g M::tbm M es c::ms) w)(hok:MapOk (rows es) c)(hf:findE es lo hi=some i) :
  Calls Tryz.prog 145 #[.pointer (some ⟨g,0,none⟩),.int .i64 lo,.int .i64 hi] w λe w'=>e=.returned (.int .i64 0)/\Sat E I (tbv g M::tbm M (cutE es lo hi) c::ms) w':=by
 have hq:=getR_rows es lo hi;rw[hf] at hq;have hr:=rows_cut es lo hi;unfold tbm at hS ⊢;rw[<- hr];clear hr hf;generalize rows es=l at *
 have Hq:=yH hq;have Hk:=yH hok;clear hq hok;unfold tbv at hS ⊢;go_enter Tryz.func145,Tryz.ntmps145;go_wp2_with (first|((with_reducible refine Kb ?_);refine lk2 (x:=(lo,hi)) hS (.inr (.tail _ (.head _))) (PH.one_self _ _) kE Tryz.underlying217 ty_z3 rfl rfl rfl rfl Hq.out ?_;simp only[Option.map_some,zJ,Option.isSome_some];refine aM ?_)|((with_reducible refine isDelete ?_);refine dl (x:=(lo,hi)) hS 1 rfl kE Tryz.underlying217 rfl rfl rfl rfl Hk.out ?_;clear hS;intro w hS;simp only[zF,zG] at hS;(try simp only[Act.put]))|(refine aL ?_))
 go_ret;exact⟨rfl,hS⟩
end
namespace G
structure Ev where
 after:Int
 kind:Int
 level:Int
inductive Stop where
 | err (e:Nat)
 | event (ev:Ev)
inductive Rs (α:Type) where
 | ok (a:α)
 | stop (s:Stop)
structure Me where
 op:Nat
 a:Nat
 b:Nat
 c:Nat
 r:Nat
def mixH(n e:Nat):Nat :=
 let k:=(n ^^^ e)*11400714819323198485%18446744073709551616
 k ^^^ (k/536870912)
def placeH(op a b c:Nat):Nat:=mixH (mixH (mixH op a) b) c%4096
abbrev Memo:=Nat->Option Me
def Memo.get(m:Memo)(op a b c:Nat):Option Nat :=
 match m (placeH op a b c) with
 | some e=>if e.op=op/\e.a=a/\e.b=b/\e.c=c then some e.r else none
 | none=>none
def Memo.put(m:Memo)(op a b c r:Nat):Memo:=λi=>if i=placeH op a b c then some ⟨op,a,b,c,r⟩ else m i
def Memo.none:Memo:=λ_=>Option.none
theorem Memo.get_none{m:Memo}{op a b c:Nat}(h:m (placeH op a b c)=Option.none):m.get op a b c=Option.none:=by unfold Memo.get;rw[h]
theorem Memo.get_hit{m:Memo}{op a b c:Nat}{e:Me}(h:m (placeH op a b c)=some e)(hk:e.op=op/\e.a=a/\e.b=b/\e.c=c):m.get op a b c=some e.r:=by unfold Memo.get;rw[h];exact jAb hk
theorem Memo.get_miss{m:Memo}{op a b c:Nat}{e:Me}(h:m (placeH op a b c)=some e)(hk:¬(e.op=op/\e.a=a/\e.b=b/\e.c=c)):m.get op a b c=Option.none:=by unfold Memo.get;rw[h];exact jAa hk
theorem Memo.none_at(i:Nat):Memo.none i=Option.none:=rfl
theorem Memo.none_get(op a b c:Nat):Memo.none.get op a b c=Option.none:=Memo.get_none (Memo.none_at _)
structure Mg where
 s:St
 me:Memo
 hs:List (Int×Nat)
 next:Nat
 waits:List Ev
 calls:Int
 fresh:Bool
def wrapI(n:Int):Int:=if n=9223372036854775807+1 then -9223372036854775808 else n
abbrev Step(α:Type):=Option (Mg×Rs α)
def Step.then{α β:Type}(x:Step α)(f:Mg->α->Step β):Step β :=
 match x with
 | none=>none
 | some (m,.ok a)=>f m a
 | some (m,.stop s)=>some (m,.stop s)
section
variable(m:Mg)
def Mg.of(h:Int):Option Nat:=(m.hs.find? λp=>p.1==h).map (·.2)
def Mg.edge(h:Int):Step Nat:=match m.of h with|some f=>some (m,.ok f)|none=>some (m,.stop (.err 8))
def Mg.mkS(v lo hi:Int):Step Nat :=
 match m.s.mkE v lo hi with
 | none=>none
 | some (s,r,e)=>if e=0 then some ({ m with s:=s },.ok r) else some ({ m with s:=s },.stop (.err e))
def Mg.mk_(v lo hi:Int):Step Nat :=
 let m:={ m with calls:=wrapI (m.calls+1) }
 match m.waits with
 | ev::l=>if ev.after<=m.calls then some ({ m with waits:=l,calls:=0 },.stop (.event ev)) else m.mkS v lo hi
 | []=>m.mkS v lo hi
def Mg.give(f:Nat):Option (Mg×Nat):=if big<=m.next then none else (m.s.hold f).map λ(s,_)=>({ m with s:=s,hs:=m.hs++[((m.next:Int),f)],next:=m.next+1 },m.next)
end
def St.topE(s:St)(l:List Nat):Int×Int:=l.foldl (λq f=>match s.at_ f with|none=>q|some (v,_,_)=>if q.1<0\/s.level v<q.2 then ((v:Int),s.level v) else q) (-1,0)
def St.splitI(s:St)(f:Nat)(v:Int):Nat×Nat:=match s.at_ f with|none=>(f,f)|some (w,a,b)=>if (w:Int)=v then (a,b) else (f,f)
def iteE(f g h:Nat):Nat ⊕ (Nat×Nat×Nat×Bool) :=
 let g:=if g=f then 0 else if g=flip f then 1 else g
 let h:=if h=f then 1 else if h=flip f then 0 else h
 if f=0\/g=h then .inl g
 else if f=1 then .inl h
 else if g=0/\h=1 then .inl f
 else if g=1/\h=0 then .inl (flip f)
 else
  let (f,g,h):=if f%2=1 then (flip f,h,g) else (f,g,h)
  .inr (f,flipIf g (g%2==1),flipIf h (g%2==1),g%2==1)
def iteN:Nat->Bool->Nat->Nat->Nat->Bool×(Nat ⊕ (Nat×Nat×Nat))
 | 0,t,f,g,h=>(t,.inr (f,g,h))
 | k+1,t,f,g,h =>
   match iteE f g h with
   | .inl r=>(t,.inl r)
   | .inr (a,b,c,n)=>if a=f/\b=g/\c=h then (t ^^ n,.inr (f,g,h)) else iteN k (t ^^ n) a b c
def Mg.ite:Nat->Mg->Nat->Nat->Nat->Step Nat
 | 0,_,_,_,_=>none
 | k+1,m,f,g,h =>
   match iteN 3 false f g h with
   | (t,.inl r)=>some (m,.ok (flipIf r t))
   | (t,.inr (f,g,h)) =>
     match m.me.get 1 f g h with
     | some r=>some (m,.ok (flipIf r t))
     | none =>
       let v:=(m.s.topE [f,g,h]).1
       (Mg.ite k m (m.s.splitI f v).1 (m.s.splitI g v).1 (m.s.splitI h v).1).then λm' lo =>
       (Mg.ite k m' (m.s.splitI f v).2 (m.s.splitI g v).2 (m.s.splitI h v).2).then λm' hi =>
       (m'.mk_ v lo hi).then λm' r=>some ({ m' with me:=m'.me.put 1 f g h r },.ok (flipIf r t))
def downTo(i n:Nat):List Nat:=(List.range n).map λk=>i+(n-1-k)
def stepsP:Nat->List Nat->List Nat->List Nat
 | _,[],_=>[]
 | i,v::b,now=>downTo i (now.idxOf v-i)++stepsP (i+1) b ((now.eraseIdx (now.idxOf v)).insertIdx i v)
def St.swaps(s:St):List Nat->Option St
 | []=>some s
 | k::l=>(s.swap k).bind λ(s',_)=>St.swaps s' l
def Mg.happen(m:Mg)(ev:Ev):Option Mg :=
 if ev.kind=1 then m.s.collect.map λ(s,_)=>{ m with s:=s,me:=Memo.none }
 else if ev.kind=2 then (m.s.swap ev.level).map λ(s,_)=>{ m with s:=s,me:=Memo.none }
 else (m.s.swaps (stepsP 0 m.s.vars.reverse m.s.vars)).map λs=>{ m with s:=s,me:=Memo.none }
def Mg.collect(m:Mg):Option (Mg×Nat):=m.s.collect.map λ(s,n)=>({ m with s:=s,me:=Memo.none },n)
def Mg.swap(m:Mg)(level:Int):Option (Mg×Nat):=(m.s.swap level).map λ(s,e)=>({ m with s:=s,me:=Memo.none },e)
def Mg.run{α:Type}(F:Mg->Step α):Nat->Bool->Mg->Option (Mg×(α ⊕ Nat))
 | 0,_,_=>none
 | k+1,room,m =>
   match F m with
   | none=>none
   | some (m',.ok a)=>some (m',.inl a)
   | some (m',.stop (.event ev))=>(m'.happen ev).bind (Mg.run F k false)
   | some (m',.stop (.err e))=>if e=7/\room=false then m'.collect.bind λ(m'',_)=>Mg.run F k true m'' else some (m',.inr e)
def Mg.do_(m:Mg)(F:Mg->Step Nat):Option (Mg×Nat×Nat) :=
 match Mg.run F fuel false m with
 | none=>none
 | some (m',.inr e)=>some (m',0,e)
 | some (m',.inl f)=>if m'.s.is f then (m'.give f).map λ(m'',h)=>(m'',h,0) else some (m',0,8)
def Mg.look{α:Type}(m:Mg)(F:Mg->Step α):Option (Mg×(α ⊕ Nat)):=Mg.run F fuel false m
def Mg.var_(m:Mg)(v:Int):Option (Mg×Nat×Nat):=if m.s.level v<0 then some (m,0,9) else m.do_ λm=>m.mk_ v 1 0
def Mg.copy(m:Mg)(h:Int):Option (Mg×Nat×Nat):=match m.of h with|none=>some (m,0,8)|some f=>(m.give f).map λ(m',h)=>(m',h,0)
def Mg.not_(m:Mg)(h:Int):Option (Mg×Nat×Nat):=match m.of h with|none=>some (m,0,8)|some f=>(m.give (flip f)).map λ(m',h)=>(m',h,0)
def Mg.drop(m:Mg):List Int->Option (Mg×Nat)
 | []=>some (m,0)
 | h::l=>match m.of h with
   | none=>some (m,8)
   | some f=>if 1<h then (m.s.drop f).bind λ(s,_)=>Mg.drop { m with s:=s,hs:=m.hs.filter λp=>p.1 != h } l else Mg.drop m l
def Mg.same(m:Mg)(f g:Int):Bool×Nat:=match m.of f,m.of g with|some a,some b=>(a==b,0)|_,_=>(false,8)
def Mg.iteH(m:Mg)(f g h:Int):Option (Mg×Nat×Nat):=m.do_ λm=>(m.edge f).then λm a=>(m.edge g).then λm b=>(m.edge h).then λm c=>m.ite fuel a b c
def St.evalE:Nat->St->Nat->List Bool->Option Bool
 | 0,_,_,_=>none
 | k+1,s,f,l=>if f/2=0 then some (f==0) else match s.at_ f with|none=>none|some (v,a,b)=>St.evalE k s (if l.getD v false then b else a) l
def Mg.eval(m:Mg)(h:Int)(l:List Bool):Option (Bool×Nat):=match m.of h with|none=>some (false,8)|some f=>(m.s.evalE fuel f l).map λb=>(b,0)
def Mg.new(vars room:Nat):Mg:=⟨St.new vars room,Memo.none,[(0,1),(1,0)],2,[],0,true⟩
end G
section
open Go.RowKit
theorem ty_agg204:Ky Tryz.prog 204=some true:=by kernel_rfl
theorem ty_sz204:Kg Tryz.prog 204=some 2:=by kernel_rfl
theorem ty_z204:Xh Tryz.prog 204=some (.agg #[.int .i64 0,.int .i64 0]):=by kernel_rfl
theorem res6{P:Program}{fn:Func}{tmps:Array Value}{w:World}{r1 r2 r3 r4 r5 r6:ResultVar}{v1 v2 v3 v4 v5 v6:Value}(h:fn.results = #[r1,r2,r3,r4,r5,r6])(h1:RV P w tmps r1 v1)(h2:RV P w tmps r2 v2)(h3:RV P w tmps r3 v3)(h4:RV P w tmps r4 v4)(h5:RV P w tmps r5 v5)(h6:RV P w tmps r6 v6):(results fn tmps).run P w=.ok (.tuple #[v1,v2,v3,v4,v5,v6]) w:=by
 have e1:=rv_run h1;have e2:=rv_run h2;have e3:=rv_run h3;have e4:=rv_run h4;have e5:=rv_run h5;have e6:=rv_run h6;simp[results_sem,h,e1,e2,e3,e4,e5,e6]
def iteV:Nat ⊕ (Nat×Nat×Nat×Bool)->Value
 | .inl r=>.tuple #[.int .i64 0,.int .i64 0,.int .i64 0,.bool false,nv r,.bool true]
 | .inr (a,b,c,n)=>.tuple #[nv a,nv b,nv c,.bool n,.int .i64 0,.bool false]
theorem eq_e2(w:World)(x y u v:Int):(Op.equal 204 (.agg #[.int .i64 x,.int .i64 y]) (.agg #[.int .i64 u,.int .i64 v])).run Tryz.prog w=.ok (decide ((x,y)=(u,v))) w :=
 eq_ekey (e:=102) (by kernel_rfl) (by kernel_rfl) (by kernel_rfl) (by kernel_rfl) w (x,y) (u,v)
theorem egt_e2:Tryz.prog.eqGuardType Tryz.prog.depth 204=false:=by kernel_rfl
theorem bin_e2(w:World)(x y u v:Int):(binOp .eql 204 (.agg #[.int .i64 x,.int .i64 y]) (.agg #[.int .i64 u,.int .i64 v])).run Tryz.prog w=.ok (.bool (decide (x=u)&&decide (y=v))) w:=by
 simp only[binOp,Sem.run_bind,eq_e2,Result.andThen_ok,Sem.run_pure,jIa,Bool.decide_and]
theorem isEqA{P:Program}{a:Act}{w:World}{Q:Exit->Act->World->Prop}{ops:Array Oper}{rest:List Oper}{dst:Option Tmp}{type:TypeId}{pos:String}{after:Array Edge}{x y:Operand}(h:wpList P ops Q (⟨dst,.binOp .eql 204 x y 204,type,pos,after,none⟩::rest) a w):wpList P ops Q (⟨dst,.binOp .eql 204 x y 204,type,pos,after,none⟩::rest) a w:=h
theorem eqA{P:Program}{a:Act}{w:World}{Q:Exit->Act->World->Prop}{ops:Array Oper}{rest:List Oper}{o:Oper}(hg:o.guard=none){b:BinOp}{T U:TypeId}{x y:Operand}(ho:o.op=.binOp b T x y U){v u r:Value}(hx:a.eval x=v)(hy:a.eval y=u)(he:(eqGuard b T x y v u).run P w=.ok () w)(hr:(binOp b T v u).run P w=.ok r w)(h:wpList P ops Q rest (a.put o.dst r) w):wpList P ops Q (o::rest) a w :=
 wpList_plain hg λ_ hK=>by
  unfold Oper.wp execOp;simp only[ho,hx,hy,Sem.run_bind,he,hr,Result.andThen_ok,Sem.run_pure];exact hK _ _ h
def iteT(f g h:Nat):Nat ⊕ (Nat×Nat×Nat×Bool) :=
 if f=0\/g=h then .inl g
 else if f=1 then .inl h
 else if g=0/\h=1 then .inl f
 else if g=1/\h=0 then .inl (G.flip f)
 else if f%2=1 then .inr (G.flip f,G.flipIf h (h%2==1),G.flipIf g (h%2==1),h%2==1)
 else .inr (f,G.flipIf g (g%2==1),G.flipIf h (g%2==1),g%2==1)
theorem iteE_T(f g h:Nat):G.iteE f g h=iteT f (if g=f then 0 else if g=G.flip f then 1 else g) (if h=f then 1 else if h=G.flip f then 0 else h):=by
 unfold G.iteE iteT;generalize (if g=f then 0 else if g=G.flip f then 1 else g)=g';generalize (if h=f then 1 else if h=G.flip f then 0 else h)=h';by_cases c:f%2=1
 . simp only[jAb c]
 . simp only[jAa c]
theorem eite_any{w:World}(f g h:Nat)(hf:f<4611686018427387904)(hg:g<4611686018427387904)(hh:h<4611686018427387904):Calls Tryz.prog 106 #[nv f,nv g,nv h] w λe w'=>e=.returned (iteV (G.iteE f g h))/\w=w':=by
 have hff:=flip_lt hf;have HN:=yH (λw':World=>enot_any (w:=w') f hf);have HG:=yH (λ(w':World) (n:Nat)=>eneg_any (w:=w') n);have HP:=yH (λ(w':World) (n:Nat) (b:Bool) (h:n<4611686018427387904)=>Zn (w:=w') n b h);have HP0:Hid (∀(w':World) (b:Bool),Calls Tryz.prog 50 #[.int .i64 0,.bool b] w' λe w''=>e=.returned (nv (G.flipIf 0 b))/\w'=w''):=yH λw' b=>Zn (w:=w') 0 b (by omega)
 have HP1:Hid (∀(w':World) (b:Bool),Calls Tryz.prog 50 #[.int .i64 1,.bool b] w' λe w''=>e=.returned (nv (G.flipIf 1 b))/\w'=w''):=yH λw' b=>Zn (w:=w') 1 b (by omega)
 have HG0:Hid (∀(w':World),Calls Tryz.prog 51 #[.int .i64 0] w' λe w''=>e=.returned (.bool (0%2==1))/\w'=w''):=yH λw'=>eneg_any (w:=w') 0
 have HG1:Hid (∀(w':World),Calls Tryz.prog 51 #[.int .i64 1] w' λe w''=>e=.returned (.bool (1%2==1))/\w'=w''):=yH λw'=>eneg_any (w:=w') 1
 rw[iteE_T];generalize hx:G.flip f=ff at *
 have HX:=yH hx;clear hx;go_enter Tryz.func106,Tryz.ntmps106;go_wp2_with (first|((with_reducible refine isEqA ?_);(refine eqA rfl rfl rfl rfl (run_eqGuard_agg _ _ _ _ _ _ _ egt_e2) (bin_e2 _ _ _ _ _) ?_);refine aM ?_)|(go_at_call 93;with_reducible refine bC (HN.out _) ?_)|(go_at_call 51;( (with_reducible refine yI (HG.out _ _) ?_) );rintro e w9 ⟨rfl,rfl⟩)|(go_at_call 50;(first|(with_reducible refine yI (HP.out _ _ _ (by omega)) ?_)|(with_reducible refine yI (HP0.out _ _) ?_)|(with_reducible refine yI (HP1.out _ _) ?_));rintro e w9 ⟨rfl,rfl⟩))
 all_goals refine bodyPost_ret (res6 rfl (rvt rfl) (rvt rfl) (rvt rfl) (rvt rfl) (rvt rfl) (rvt rfl)) rfl ?_
 all_goals refine⟨jNa Ending.returned ?_,rfl⟩
 all_goals clear HN HG HP HP0 HP1 HG0 HG1
 all_goals try simp only[zD,zC,zA,zB,zJ]
 all_goals try simp only[jRb,jGb,ne_eq,not_true_eq_false,false_or,jJb,kS,kJb] at *
 all_goals unfold iteT
 all_goals simp only[HX.out]
 all_goals clear HX
 all_goals (repeat' split)
 all_goals first|rfl|(exfalso;omega)|(exfalso;simp only[true_or,or_true,kS,kJb,and_self,not_true_eq_false] at *;done)|(exfalso;simp only[kS,kJb] at *;omega)
end
section
open Go.RowKit
def iv(j:Nat):Value:=.int .i64 (j:Int)
def idC(i n:Nat):Array Value:=((List.range i).map iv++List.replicate (n-i) (Value.int .i64 0)).toArray
theorem idC_size{i n:Nat}(h:i<=n):(idC i n).size=n:=by simp[idC];omega
theorem idC_set{i n:Nat}(h:i<n):(idC i n).setIfInBounds i (.int .i64 (i:Int))=idC (i+1) n:=by
 apply Array.ext';rw[Array.toList_setIfInBounds];unfold idC;simp only;rw[List.set_append_right _ _ (by simp),jHb,List.length_range,qCa,show n-i=(n-(i+1))+1 by omega,List.replicate_succ,zG,kR,jGa];simp[iv]
theorem made_int(n:Nat):madeCells (Value.cells (.int .i64 0)) (n*1)=idC 0 n:=by
 unfold madeCells idC Value.cells;apply Array.ext
 . simp
 . intro i h1 h2
   simp[Nat.mod_one]
theorem ident_any(E:World)(I:PH)(ms:List PH)(n:Nat)(w:World)(hn:n<=64)(hS:Sat E I ms w) :
  Calls Tryz.prog 114 #[.int .i64 (n:Int)] w λe w'=>∃X,e=.returned (.slice (some ⟨X,0,none⟩) n n)/\Sat E I (PH.one X (.cells (idC n n) 3)::ms) w':=by
 have hmin:min (max (n:Int) 0) 64=(n:Int):=by omega
 have hmax:max (n:Int) 0=(n:Int):=by omega
 have hmin2:min (n:Int) 64=(n:Int):=by omega
 go_enter Tryz.func114,Tryz.ntmps114;go_wp2_with ( ((with_reducible refine isMake ?_);refine mks hS rfl rfl Tryz.underlying23 Ko rfl rfl rfl rfl (jBb _) (by omega) (by omega) ?_;clear hS;intro X w hS;refine aM ?_) )
 rw[made_int] at hS;clear hmin hmin2 hmax;go_loopw [11] (λv11 wr=>∃i:Nat,i<=n/\v11=.int .i64 (i:Int)/\Sat E I (PH.one X (.cells (idC i n) 3)::ms) wr) (λv11 _=>(n-intOf v11).toNat)
 case atStart=>exact⟨0,by omega,rfl,hS⟩
 case round =>
  clear hS;obtain⟨i,hi,rfl,hS⟩:=hrel;by_cases hlt:i<n
  . have hsz:=idC_size hi
    have hst:=idC_set hlt;have i1:(i:Int)<n:=by omega
    have HST:=yH hst;have HSZ:=yH hsz;clear hst hsz;go_wp2_with ( ((with_reducible refine Xa ?_);refine st1 0 hS rfl rfl rfl rfl rfl Yg rfl rfl (by rw[HSZ.out];exact hlt) ?_;clear hS;intro w hS;(try simp only[zG,Act.eval,zD,zC,zA,zB,zJ] at hS);(try simp only[Act.put])) )
    rw[HST.out] at hS
    go_roundw
    case rel=>exact⟨i+1,by omega,by go_num,hS⟩
    case measure=>simp[intOf];omega
  . have hin:i=n:=by omega
    subst hin;go_wp2
    go_ret;exact⟨X,rfl,hS⟩
theorem mnew_any(E:World)(I:PH)(ms:List PH)(w:World)(hS:Sat E I ms w) :
  Calls Tryz.prog 70 #[.int .i64 4096] w λe w'=>∃X,e=.returned (.pointer (some ⟨X,0,none⟩))/\Sat E I (PH.one X (.cells #[.int .i64 4096,.slice none 0 0,.int .i64 0,.int .i64 0] 184)::ms) w':=by
 go_enter Tryz.func70,Tryz.ntmps70;go_wp2_with (first|(refine aX ?_;clear hS;intro X w hS))
 go_ret;exact⟨_,rfl,hS⟩
end
section
open Go.RowKit
theorem tabp_info:(Tryz.prog.info? 180).map (λi=>(i.zero,i.size,i.bytes))=some (some (.pointer none),1,8):=by kernel_rfl
theorem ty_agg162:Ky Tryz.prog 162=some false:=by kernel_rfl
theorem ty_sz162:Kg Tryz.prog 162=some 1:=by kernel_rfl
theorem ty_agg180:Ky Tryz.prog 180=some false:=by kernel_rfl
theorem ty_agg161:Ky Tryz.prog 161=some false:=by kernel_rfl
def tabs(l:List (Nat×Nat)):List PH:=l.flatMap λt=>[tbv t.1 t.2,tbm t.2 [] 0]
def tabVs(l:List (Nat×Nat)):List Value:=l.map λt=>vPt t.1
def stV(L P:Nat)(v:Value):Array Value := #[vPt L,vPt P,v,.slice none 0 0,.int .i64 0]
def mkG(S L P:Nat)(v:Value)(m:PH)(l:List (Nat×Nat))(rest:List PH)(s:Nat)(vals:Nat->Value)(_:PH)(ns:List PH):Prop :=
 match s with
 | 0=>ns=PH.one S (.cells (stV L P v) 164)::m::rest
 | 1=>∃g M,vals 5=vPt g/\ns=tbv g M::tbm M [] 0::PH.one S (.cells (stV L P v) 164)::m::rest
 | 2=>∃g M Y,vals 6=vSl 1 Y/\ns=PH.one Y (.cells #[vPt g] 180)::tbv g M::tbm M [] 0::PH.one S (.cells (stV L P v) 164)::m::rest
 | 3=>∃g M Y m',OwnP m' 180 1 (vals 7) (l.length+1) (tabVs (l++[(g,M)]))/\ns=PH.one Y (.cells #[vPt g] 180)::tbv g M::tbm M [] 0::PH.one S (.cells (stV L P v) 164)::m'::rest
 | _=>∃g M Y m',OwnP m' 180 1 (vals 7) (l.length+1) (tabVs (l++[(g,M)]))/\ns=PH.one Y (.cells #[vPt g] 180)::tbv g M::tbm M [] 0::PH.one S (.cells (stV L P (vals 7)) 164)::m'::rest
theorem mkG.gst{S L P:Nat}{v:Value}{m:PH}{l:List (Nat×Nat)}{rest:List PH}(s:Nat)(vals vals':Nat->Value)(J:PH)(ns:List PH)(h:∀j∈[5,6,7,10].take s,vals j=vals' j)(hg:mkG S L P v m l rest s vals J ns):mkG S L P v m l rest s vals' J ns:=by
 match s,h,hg with
 | 0,h,hg=>exact hg
 | 1,h,hg=>obtain⟨g,M,h1,h2⟩:=hg;exact⟨g,M,by rw[<- h 5 (by decide)];exact h1,h2⟩
 | 2,h,hg=>obtain⟨g,M,Y,h1,h2⟩:=hg;exact⟨g,M,Y,by rw[<- h 6 (by decide)];exact h1,h2⟩
 | 3,h,hg=>obtain⟨g,M,Y,m',h1,h2⟩:=hg;exact⟨g,M,Y,m',by rw[<- h 7 (by decide)];exact h1,h2⟩
 | s+4,h,hg=>obtain⟨g,M,Y,m',h1,h2⟩:=hg;exact⟨g,M,Y,m',by rw[<- h 7 (by simp)];exact h1,by rw[<- h 7 (by simp)];exact h2⟩
theorem mkG.mem{S L P:Nat}{v:Value}{m:PH}{l:List (Nat×Nat)}{rest:List PH}{s:Nat}{vals:Nat->Value}{J:PH}{ns:List PH}(hs:s<=2)(h:mkG S L P v m l rest s vals J ns):PH.one S (.cells (stV L P v) 164)∈ns:=by
 match s,hs,h with
 | 0,_,h=>rw[show ns=_ from h];simp
 | 1,_,h=>obtain⟨g,M,_,h⟩:=h;rw[h];simp
 | 2,_,h=>obtain⟨g,M,Y,_,h⟩:=h;rw[h];simp
theorem perm_tab(a b S m:PH)(X:List PH):(a::b::S::m::X).Perm (S::m::a::b::X) :=
 (jIb (l₁:=[a,b]) (l₂:=[S,m])).append_right X
def stP(S L P V1 V2 A T:Nat)(n:Nat)(room:Int)(v:Value)(m:PH)(l:List (Nat×Nat)):List PH :=
 PH.one S (.cells (stV L P v) 164)::m::tabs l++[PH.one L (.cells #[vSl n V1,vSl n V2] 166),PH.one V2 (.cells (idC n n) 3),PH.one V1 (.cells (idC n n) 3),PH.one P (.cells #[.int .i64 room,vSl 1 A,vSl 1 T,.slice none 0 0,.int .i64 0] 216),PH.one A (.cells node0 194),PH.one T (.cells #[.bool false] 4)]
theorem nnew_ok(E:World)(I:PH)(ms:List PH)(n:Nat)(room:Int)(w:World)(hn:n<=64)(h1:1<=room)(h2:room<=1048576)(hS:Sat E I ms w) :
  Calls Tryz.prog 69 #[.int .i64 (n:Int),.int .i64 room] w λe w'=>∃S L P V1 V2 A T v m l,e=.returned (.tuple #[vPt S,.int .i64 0])/\l.length=n/\OwnP m 180 1 v n (tabVs l) /\
   Sat E I (stP S L P V1 V2 A T n room v m l++ms) w':=by
 have hn0:(0:Int)<=(n:Int):=by omega
 have hn1:(n:Int)<=64:=by omega
 go_enter Tryz.func69,Tryz.ntmps69;go_wp2_with (first|(go_at_call 113;(with_reducible refine yI (pnew_ok _ _ _ _ _ h1 h2 hS) ?_);clear hS;rintro e w ⟨P,A,T,rfl,hS⟩))
 refine (ident_any _ _ _ _ _ hn hS).mono ?_;clear hS;rintro e w ⟨V1,rfl,hS⟩;go_wp2_with fail
 refine (ident_any _ _ _ _ _ hn hS).mono ?_;clear hS;rintro e w ⟨V2,rfl,hS⟩;go_wp2_with (first|(refine aN 26 ?_;clear hS;intro L w hS)|(refine aN 29 ?_;clear hS;intro S w hS))
 have hS0:Sat E I (stP S L P V1 V2 A T n room (.slice none 0 0) (λ_=>none) []++ms) w:=hS.empty.perm (List.Perm.swap _ _ _);clear hS;go_loopw [31] (λv31 wr=>∃v m l,l.length<=n/\v31=.int .i64 ((l.length:Nat):Int)/\OwnP m 180 1 v l.length (tabVs l)/\Sat E I (stP S L P V1 V2 A T n room v m l++ms) wr) (λv31 _=>(n-intOf v31).toNat)
 case atStart=>exact⟨_,_,[],by simp,rfl,OwnP.nil _ _,hS0⟩
 case round =>
  clear hS0;obtain⟨v,m,l,hl,rfl,hO,hS⟩:=hrel;by_cases hlt:l.length<n
  . have i1:(l.length:Int)<n:=by omega
    go_wp2_with fail
    have hS1:Sat E I (PH.one S (.cells (stV L P v) 164)::m::(tabs l++[PH.one L (.cells #[vSl n V1,vSl n V2] 166),PH.one V2 (.cells (idC n n) 3),PH.one V1 (.cells (idC n n) 3),PH.one P (.cells #[.int .i64 room,vSl 1 A,vSl 1 T,.slice none 0 0,.int .i64 0] 216),PH.one A (.cells node0 194),PH.one T (.cells #[.bool false] 4)]++ms)) wr:=by
     unfold stP at hS
     simpa only[List.cons_append,jE] using hS
    clear hS;generalize hrest:tabs l++_++ms=rest at hS1;refine Qf [[],[],[1],[1,2],[1,2,3],[],[5],[1,2,3,4,5,6],[0,1,2,3,4,5,6,7],[0,1,2,3,4,5,6,7,8],[0,1,2,3,4,5,6,7,8,9]] E I _
     [λv _=>v=vPt S,λv _=>v=vPt S,λv _=>v=vPt S,λv _=>v=.pointer (some ⟨S,2,none⟩),λx _=>x=v,λ_ _=>True,λ_ _=>True,λ_ _=>True,λv _=>v=vPt S,λv _=>v=.pointer (some ⟨S,2,none⟩),λ_ _=>True] [5,6,7,10] (mkG S L P v m l rest) (by kernel_rfl) (by kernel_rfl) (by decide) hS1 rfl ?last mkG.gst (λs vals J J' ns _ h=>h) ?plain ?step ?fin
    case last=>exact bL
    case plain =>
     repeat' (first|exact trivial|apply And.intro)
     all_goals first|exact .inl rfl|skip
     all_goals
      refine .inr ?_;intro s vals J bs w hstop hg hJ hS hG
      first
      | (refine Veil.out ?_
         have hmem:=hG.mem (jFb hstop (by decide));refine⟨?_⟩;refine bS ?_;intro K HK;refine wp_ldo1 hS hmem ty_agg162 rfl rfl ?_;exact bO)
      | (refine bS ?_;intro K HK;go_wp2_with fail;exact bO)
    case step =>
     refine⟨⟨⟨⟨trivial,?_⟩,?_⟩,?_⟩,?_⟩
     . intro vals J bs w hg hJ hS hG
       have hG:bs=_:=hG;subst hG;simp only[zH,zI,Given,Facts] at hg;simp only[Qc,Qo,Qi,Qd,zH,zI,zA,zB,zK,jEb,Act.put,zE,zF,zG];refine bU ?_;intro K HK;go_wp2_with (go_at_call 115;(with_reducible refine yI (new_any _ _ _ _ hS) ?_);clear hS;rintro e w ⟨g,M,rfl,hS⟩)
       refine HK.out _ _ ⟨rfl,J,_,PH.le.refl _,hS,trivial,g,M,?_,rfl⟩;simp only[Qq];simp only[Qk,zD,zC,zA,zB,zJ]
     . intro vals J bs w hg hJ hS hG
       refine Veil.out ?_;obtain⟨g,M,h5,hns⟩:=hG;subst hns;refine⟨?_⟩;simp only[Qc,Qo,Qi,Qd,zH,zI,zA,zB,zK,jEb,Act.put,zE,zF,zG,h5];refine bU ?_;intro K HK;refine wp_bsl hS (λw0=>by go_simp;rfl) λY w hS=>?_
       refine HK.out _ _ ⟨rfl,J,_,PH.le.refl _,hS,trivial,g,M,Y,?_,?_⟩
       . simp only[Qq]
         simp only[Qk,Act.put,zE,zF,zG,zD,zC,zA,zB,zJ]
       . simp only[]
     . intro vals J bs w hg hJ hS hG
       refine Veil.out ?_;obtain⟨g,M,Y,h6,hns⟩:=hG;have h4:vals 4=v:=hg.get 4 (by decide);subst hns;refine⟨?_⟩;simp only[Qc,Qo,Qi,Qd,zH,zI,zA,zB,zK,jEb,Act.put,zE,zF,zG,h4,h6];refine bU ?_;intro K HK;refine wp_apP (p:=PH.one Y (.cells #[vPt g] 180)) (m:=m) (v:=v) (n:=l.length) (xs:=tabVs l) (news:=[vPt g]) hS 4 rfl (.inr (List.Mem.head _)) rfl Tryz.underlying162 tabp_info rfl (by decide) rfl hO rfl rfl (Cells.one _ _ _ _) rfl (by unfold maxLen;omega) (by omega) λv' m' w hO' hS=>?_
       refine HK.out _ _ ⟨rfl,J,_,PH.le.refl _,hS,trivial,g,M,Y,m',?_,?_⟩
       . simp only[Qq]
         simp only[Qk,Act.put,zE,zF,zG,zD,zC,zA,zB,zJ];unfold tabVs;rw[jGa];exact hO'
       . simp only[zF,zG]
     . intro vals J bs w hg hJ hS hG
       refine Veil.out ?_;obtain⟨g,M,Y,m',hO',hns⟩:=hG;obtain⟨A1,c1,h7,_⟩:=hO'.shape;have h9:vals 9=.pointer (some ⟨S,2,none⟩):=hg.get 9 (by decide);subst hns;refine⟨?_⟩;simp only[Qc,Qo,Qi,Qd,zH,zI,zA,zB,zK,jEb,Act.put,zE,zF,zG,h9,h7];refine bU ?_;intro K HK;refine wp_st1 hS 3 rfl rfl rfl rfl ty_sz162 rfl rfl (by simp[stV]) λw hS=>?_
       refine HK.out _ _ ⟨rfl,J,_,PH.le.refl _,hS,trivial,g,M,Y,m',?_,?_⟩
       . exact hO'
       . rw[Qw _ _ (by decide),h7]
         rfl
    case fin =>
     intro vals J bs w hJ hg hS hG;obtain⟨g,M,Y,m',hO',hns⟩:=hG;subst hns;have hS:=hS.less hJ;refine bH ?_;clear hg;go_wp2
     refine⟨⟨vals 7,m',l++[(g,M)],by simp;omega,by simp,by simpa using hO',?_⟩,by simp[intOf];omega⟩;have h1:=hS.drop.perm (perm_tab _ _ _ _ _);subst hrest;refine h1.perm ?_;unfold stP;have ht:tabs (l++[(g,M)])=tabs l++[tbv g M,tbm M [] 0]:=by simp[tabs]
     rw[ht];simp only[List.cons_append,jE];refine .cons _ (.cons _ ?_);exact ((jIb (l₁:=[tbv g M,tbm M [] 0]) (l₂:=tabs l)).append_right _).trans (.of_eq (by simp))
  . have hln:l.length=n:=by omega
    have hlt2:decide ((l.length:Int)<n)=false:=by rw[jD];omega
    go_wp2
    go_ret2;exact⟨S,L,P,V1,V2,A,T,v,m,l,rfl,hln,by rw[<- hln];exact hO,hS⟩
end
end Go.Proofs.YtidamcdklgfogaaGreat
