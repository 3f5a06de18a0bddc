import Derived.Test.YtidamcdklgfogaaGreatUae
import Derived.Test.YtidamcdklgfogaaGreatUaf
set_option linter.unusedVariables false
set_option linter.unusedSimpArgs false
set_option maxRecDepth 100000
set_option maxHeartbeats 4000000
namespace Go.Proofs.YtidamcdklgfogaaGreat
section
open Go.RowKit
theorem ty_agg214:Ky Tryz.prog 214=some false:=by kernel_rfl
theorem ty_sz214:Kg Tryz.prog 214=some 1:=by kernel_rfl
theorem ty_z214:Xh Tryz.prog 214=some (.slice none 0 0):=by kernel_rfl
theorem ty_agg23:Ky Tryz.prog 23=some false:=by kernel_rfl
theorem ty_sz23:Kg Tryz.prog 23=some 1:=by kernel_rfl
theorem ty_z23:Xh Tryz.prog 23=some (.slice none 0 0):=by kernel_rfl
theorem Yi:Ky Tryz.prog 102=some false:=by kernel_rfl
theorem ty_sz102:Kg Tryz.prog 102=some 1:=by kernel_rfl
theorem Zk:Xh Tryz.prog 102=some (.int .i64 0):=by kernel_rfl
abbrev nv(n:Nat):Value:=.int .i64 (n:Int)
def ndC(p:Option G.Nd×Nat):List Value:=match p.1 with
 | none=>[.int .i64 0,.int .i64 0,.int .i64 0,.int .i64 0,.int .i64 0]
 | some n=>[nv p.2,nv n.v,nv n.lo,nv n.hi,nv n.refs]
theorem ndC_len(p:Option G.Nd×Nat):(ndC p).length=5:=by unfold ndC;split <;> rfl
def tkC(o:Option G.Nd):List Value:=[.bool o.isSome]
theorem tkC_len(o:Option G.Nd):(tkC o).length=1:=rfl
def ivC(n:Nat):List Value:=[nv n]
theorem Kt(n:Nat):(ivC n).length=1:=rfl
def Fits(n:G.Nd):Prop:=n.v<4611686018427387904/\n.lo<4611686018427387904/\n.hi<4611686018427387904/\n.refs<4611686018427387905
structure PlFit (p:G.Pl):Prop where
 room:p.room<=1048576
 pos:0<p.slots.length
 len:p.slots.length<=p.room+1
 free:p.free.length<=p.slots.length
 nd:∀(i:Nat) n,p.slots[i]?=some (some n)->Fits n
abbrev plV(p:G.Pl)(A cA T cT:Nat)(vF:Value):Array Value := #[nv p.room,.slice (some ⟨A,0,none⟩) p.slots.length cA,.slice (some ⟨T,0,none⟩) p.slots.length cT,vF,nv (G.many p.slots)]
def PoolAt(P:Nat)(p:G.Pl)(m:PH):Prop:=PlFit p/\∃A cA T cT vF mA mT mF,Bd m [PH.one P (.cells (plV p A cA T cT vF) 216),mA,mT,mF] /\
 OwnP mA 194 5 (.slice (some ⟨A,0,none⟩) p.slots.length cA) p.slots.length (p.slots.zipIdx.flatMap ndC)/\OwnP mT 4 1 (.slice (some ⟨T,0,none⟩) p.slots.length cT) p.slots.length (p.slots.flatMap tkC) /\
 OwnP mF 3 1 vF p.free.length (p.free.flatMap ivC)
def PoolR(I:PH)(P:Nat)(p:G.Pl):Prop:=PlFit p/\∃A cA T cT vF nF cF,vF=.slice nF p.free.length cF/\I.at P 0=some (nv p.room)/\I.at P 1=some (.slice (some ⟨A,0,none⟩) p.slots.length cA)/\I.at P 2=some (.slice (some ⟨T,0,none⟩) p.slots.length cT) /\
 I.at P 3=some vF/\I.at P 4=some (nv (G.many p.slots))/\(∀(i:Nat) x,p.slots[i]?=some x->Cells I A (i*5) (ndC (x,i)))/\(∀(i:Nat) x,p.slots[i]?=some x->I.at T i=some (.bool x.isSome))
theorem PoolR.le{I J:PH}{P:Nat}{p:G.Pl}(h:PoolR I P p)(hJ:I.le J):PoolR J P p:=by
 obtain⟨h0,A,cA,T,cT,vF,nF,cF,h1,h2,h3,h4,h5,h6,h7,h8⟩:=h;exact⟨h0,A,cA,T,cT,vF,nF,cF,h1,PH.at_le hJ h2,PH.at_le hJ h3,PH.at_le hJ h4,PH.at_le hJ h5,PH.at_le hJ h6,λi x hx=>(h7 i x hx).le hJ,λi x hx=>PH.at_le hJ (h8 i x hx)⟩
theorem Cells.at{I:PH}{X off:Nat}{vs:List Value}(h:Cells I X off vs)(j:Nat){v:Value}(hj:vs[j]?=some v):I.at X (off+j)=some v:=h j v hj
theorem Qb{X:Nat}{c:Array Value}{T:TypeId}{j:Nat}{v:Value}(h:c.toList[j]?=some v):(PH.one X (.cells c T (0,0))).at X j=some v:=by
 have:=Cells.one X c T (0,0) j v h
 rwa [jLb] at this
theorem PoolAt.read{P:Nat}{p:G.Pl}{m:PH}(h:PoolAt P p m):PoolR m P p:=by
 obtain⟨hf,A,cA,T,cT,vF,mA,mT,mF,⟨rfl,hd⟩,hA,hT,hF⟩:=h;have l0:=PH.all_mem hd (List.Mem.head _);have l1:=PH.all_mem hd (List.Mem.tail _ (List.Mem.head _));have l2:=PH.all_mem hd (List.Mem.tail _ (List.Mem.tail _ (List.Mem.head _)));obtain⟨nF,cF,hvF,_⟩:=hF.shape;refine⟨hf,A,cA,T,cT,vF,nF,cF,hvF,PH.at_le l0 (Qb rfl),PH.at_le l0 (Qb rfl),PH.at_le l0 (Qb rfl),PH.at_le l0 (Qb rfl),PH.at_le l0 (Qb rfl),λi x hx=>?_,λi x hx=>?_⟩
 . have hz:p.slots.zipIdx[i]?=some (x,i):=by rw[List.getElem?_zipIdx,hx];simp
   exact (Qs ndC_len hA hz).le l1
 . have:=((Qs tkC_len hT hx).le l2).at 0 rfl
   rwa [jG,Nat.add_zero] at this
def G.Pl.isI(p:G.Pl)(id:Int):Bool:=decide (0<=id)&&(p.nd id.toNat).isSome
section
variable{w:World} {P:Nat} {p:G.Pl}
theorem proom_any(h:PoolR (Qa w) P p):Calls Tryz.prog 158 #[.pointer (some ⟨P,0,none⟩)] w λe w'=>e=.returned (nv p.room)/\w=w':=by
 obtain⟨h0,A,cA,T,cT,vF,nF,cF,h1,h2,h3,h4,h5,h6,h7,h8⟩:=h;have hS:=Sat.start w;clear h0 h1 h3 h4 h5 h6 h7 h8;go_enter Tryz.func158,Tryz.ntmps158;go_wp2_with (first|(refine aL ?_))
 go_ret;exact⟨rfl,rfl⟩
theorem plen_any(h:PoolR (Qa w) P p):Calls Tryz.prog 159 #[.pointer (some ⟨P,0,none⟩)] w λe w'=>e=.returned (nv (G.many p.slots))/\w=w':=by
 obtain⟨h0,A,cA,T,cT,vF,nF,cF,h1,h2,h3,h4,h5,h6,h7,h8⟩:=h;have hS:=Sat.start w;clear h0 h1 h2 h3 h4 h5 h7 h8;go_enter Tryz.func159,Tryz.ntmps159;go_wp2_with (first|(refine aL ?_))
 go_ret;exact⟨rfl,rfl⟩
theorem G.Pl.isI_of{p:G.Pl}{id:Nat}{x:Option G.Nd}(h0:id≠0)(hx:p.slots[id]?=some x):p.isI (id:Int)=x.isSome:=by
 unfold G.Pl.isI G.Pl.nd;rw[Int.toNat_natCast,jAa h0,yD,hx];simp
theorem G.Pl.isI_no{p:G.Pl}{id:Int}(h:id<=0\/(p.slots.length:Int)<=id):p.isI id=false:=by
 unfold G.Pl.isI G.Pl.nd;rcases h with h|h
 . by_cases h0:id=0
   . subst h0;simp
   . have:¬0<=id:=by omega
     simp[this]
 . rw[yD,jJ (by omega)]
   simp
theorem is_any(h:PoolR (Qa w) P p)(id:Int):Calls Tryz.prog 152 #[.pointer (some ⟨P,0,none⟩),.int .i64 id] w λe w'=>e=.returned (.bool (p.isI id))/\w=w':=by
 obtain⟨h0,A,cA,T,cT,vF,nF,cF,h1,h2,h3,h4,h5,h6,h7,h8⟩:=h;have hS:=Sat.start w;have hl:=h0.len;have hr:=h0.room;clear h1 h2 h5 h6 h7;by_cases c1:0<id
 . by_cases c2:id<(p.slots.length:Int)
   . obtain⟨j,rfl⟩:∃j:Nat,id=(j:Int):=⟨id.toNat,by omega⟩
     have hj:j<p.slots.length:=by omega
     have hx:=yA hj;have h9:=h8 j _ hx;rw[G.Pl.isI_of (by omega) hx];have e9:j*1=j:=jG j;generalize p.slots[j].isSome=b at *
     clear h8 hx h0;generalize p.slots.length=n at *
     generalize p.room=rm at *
     cases b
     all_goals
      go_enter Tryz.func152,Tryz.ntmps152;go_wp2_with (first|(refine aG ?_)|(refine aL ?_))
      go_ret;exact⟨rfl,rfl⟩
   . rw[G.Pl.isI_no (.inr (by omega))]
     clear h8 h0;generalize p.slots.length=n at *
     generalize p.room=rm at *
     go_enter Tryz.func152,Tryz.ntmps152;go_wp2_with (first|(refine aG ?_)|(refine aL ?_))
     go_ret;exact⟨rfl,rfl⟩
 . rw[G.Pl.isI_no (.inl (by omega))]
   clear h8 h0;go_enter Tryz.func152,Tryz.ntmps152;go_wp2_with (first|(refine aG ?_))
   go_ret;exact⟨rfl,rfl⟩
def ndV(id:Int)(o:Option G.Nd):Value:=.agg (ndC (o,id.toNat)).toArray
theorem pat_any(h:PoolR (Qa w) P p)(id:Int):Calls Tryz.prog 128 #[.pointer (some ⟨P,0,none⟩),.int .i64 id] w λe w'=>e=.returned (.tuple #[ndV id (if p.isI id then p.nd id.toNat else none),.bool (p.isI id)])/\Below w.heap.size w w':=by
 have his:=λw' (hle:(Qa w).le (Qa w'))=>is_any (h.le hle) id
 by_cases hb:p.isI id=true
 . obtain⟨h0,A,cA,T,cT,vF,nF,cF,h1,h2,h3,h4,h5,h6,h7,h8⟩:=h
   have hnd:0<id/\∃n,p.slots[id.toNat]?=some (some n)/\p.nd id.toNat=some n:=by
    unfold G.Pl.isI at hb;simp at hb
    obtain⟨n,hn⟩:=yF.1 hb.2;obtain⟨g1,g2⟩:=G.Pl.nd_some.1 hn;exact⟨by omega,n,g2,hn⟩
   obtain⟨hpos,n,hn1,hn2⟩:=hnd;obtain⟨j,rfl⟩:∃j:Nat,id=(j:Int):=⟨id.toNat,by omega⟩;rw[Int.toNat_natCast] at hn1;have hj:=(yE.1 hn1).1;have hc:=h7 j _ hn1;have hval:ndV (j:Int) (if p.isI (j:Int) then p.nd (j:Int).toNat else none)=.agg (ndC (some n,j)).toArray:=by rw[jAb hb,hn2];rfl
   rw[hval,hb];rw[hb] at his;have HC:Cells (Qa w) A (j*5) [nv j,nv n.v,nv n.lo,nv n.hi,nv n.refs]:=hc;have hl:=h0.len;have hr:=h0.room;clear h0 h1 h2 h4 h5 h6 h7 h8 hc hn1 hn2 hval hb;have hS:=Sat.start w;show Calls _ _ _ _ λe w'=>e=.returned (.tuple #[.agg #[nv j,nv n.v,nv n.lo,nv n.hi,nv n.refs],.bool true])/\_
   generalize p.slots.length=m at *
   generalize p.room=rm at *
   go_enter Tryz.func128,Tryz.ntmps128;go_wp2_with (first|(go_at_call 152;with_reducible refine bC (his _ hS.ile) ?_)|(refine aL ?_)|(refine aS ?_;clear hS;intro w hS)|(refine aX ?_;clear hS;intro X w hS))
   refine bodyPost_ret (res2 rfl (rvN 0 hS rfl rfl ty_agg194 Qz) (rvt rfl)) rfl ?_;exact⟨rfl,hS.end_ (PH.le.refl _)⟩
 . have hb:p.isI id=false:=by simpa using hb
   rw[hb] at his;rw[hb,jAa (by simp)];have hS:=Sat.start w;clear h;show Calls _ _ _ _ λe w'=>e=.returned (.tuple #[.agg node0,.bool false])/\_
   go_enter Tryz.func128,Tryz.ntmps128;go_wp2_with (first|(go_at_call 152;with_reducible refine bC (his _ hS.ile) ?_)|(refine aS ?_;clear hS;intro w hS)|(refine aX ?_;clear hS;intro X w hS))
   refine bodyPost_ret (res2 rfl (rvN 0 hS rfl rfl ty_agg194 Qz) (rvt rfl)) rfl ?_;exact⟨rfl,hS.end_ (PH.le.refl _)⟩
end
end
section
open Go.RowKit
theorem Sat.all_le{E w:World}{I:PH}{l ms:List PH}(h:Sat E I ms w)(hl:∀q∈l,q∈ms):(PH.all l).le (Qa w):=λb o hb=>by
 obtain⟨q,hq,h1⟩:=PH.all_some hb;exact h.own q (hl q hq) b o h1
theorem Sat.melt{E w:World}{I m:PH}{ms:List PH}(h:Sat E (I.join m) ms w)(ho:I.off m):Sat E I (m::ms) w:=by
 refine⟨h.os,h.tape,h.output,λb o hb=>h.imm b o (PH.le_join I m b o hb),λp hp=>?_,λp hp b=>?_,jLa.2 ⟨λp hp b=>?_,h.dis⟩,h.size⟩
 . rcases jBa.1 hp with rfl|hp
   . exact λb o hb=>h.imm b o (PH.le_join_right ho b o hb)
   . exact h.own p hp
 . rcases jBa.1 hp with rfl|hp
   . exact (ho b).symm
   . rcases h.sep p hp b with h1|h1
     . exact .inl h1
     . refine .inr ?_
       cases hI:I b with
       | none=>rfl
       | some o=>rw[PH.le_join I m b o hI] at h1;cases h1
 . rcases h.sep p hp b with h1|h1
   . exact .inr h1
   . refine .inl ?_
     cases hI:m b with
     | none=>rfl
     | some o=>rw[PH.le_join_right ho b o hI] at h1;cases h1
theorem Sat.ice{E w:World}{I m:PH}{ms:List PH}(h:Sat E I (m::ms) w):∃J:PH,I.le J/\m.le J/\Sat E J ms w/\∀w' ns,Sat E J ns w'->Sat E I (m::ns) w' :=
 ⟨_,PH.le_join _ _,PH.le_join_right (h.off (.head _)),h.freeze,λ_ _ h'=>h'.melt (h.off (.head _))⟩
def set1G(ms:List PH)(k:Nat)(OK:PH->Prop)(s:Nat)(_:Nat->Value)(_:PH)(ns:List PH):Prop:=if s=0 then ns=ms else ∃m',OK m'/\ns=ms.set k m'
def set2G(ms:List PH)(k1 k2:Nat)(O1 O2:PH->Prop)(s:Nat)(_:Nat->Value)(_:PH)(ns:List PH):Prop:=if s=0 then ns=ms else if s=1 then ∃m1,O1 m1/\ns=ms.set k1 m1 else ∃m1 m2,O1 m1/\O2 m2/\ns=(ms.set k1 m1).set k2 m2
theorem zip_flat_set(l:List (Option G.Nd))(i:Nat)(hi:i<l.length)(x:Option G.Nd):spl (l.zipIdx.flatMap ndC) (i*5) (ndC (x,i))=(l.set i x).zipIdx.flatMap ndC:=by
 rw[flat_set ndC_len _ i (by simpa using hi)];congr 1
 apply kEb;intro j;rw[kNb,List.getElem?_zipIdx,List.getElem?_zipIdx,kNb];by_cases h:i=j
 . subst h;simp[hi]
 . simp[h]
abbrev ndA(id:Nat)(n:G.Nd):Value:=.agg #[nv id,nv n.v,nv n.lo,nv n.hi,nv n.refs]
theorem taken_put:∀(l:List (Option G.Nd)) (i:Nat) (old n:G.Nd),l[i]?=some (some old)->(l.set i (some n)).flatMap tkC=l.flatMap tkC
 | [],_,_,_,h=>by simp at h
 | a::l,0,old,n,h=>by simp at h;subst h;simp[tkC]
 | a::l,i+1,old,n,h=>by
   rw[zA] at h;rw[zF,jMb,jMb,taken_put l i old n h]
theorem PlFit.set{p:G.Pl}(h:PlFit p){id:Nat}{x:Option G.Nd}(hx:∀n,x=some n->Fits n){fr:List Nat}(hfr:fr.length<=p.slots.length):PlFit { p with slots:=p.slots.set id x,free:=fr }:=by
 refine⟨h.room,by simpa using h.pos,by simpa using h.len,by simpa using hfr,λi a ha=>?_⟩;rw[kNb] at ha;by_cases hi:id=i
 . rw[jAb hi] at ha
   split at ha
   . injection ha with ha;exact hx a ha
   . cases ha
 . rw[jAa hi] at ha
   exact h.nd i a ha
theorem ndA_one(id:Nat)(n:G.Nd):∀u∈(Value.cells (ndA id n)).toList,u.oneCell'=true:=by simp[Value.cells,Value.oneCell']
theorem pset_any(E w:World)(I m:PH)(ms:List PH)(P:Nat)(p:G.Pl)(id:Nat)(n old:G.Nd)(hn:p.nd id=some old)(hfit:Fits n)(hP:PoolAt P p m)(hS:Sat E I (m::ms) w) :
  Calls Tryz.prog 137 #[.pointer (some ⟨P,0,none⟩),ndA id n] w λe w'=>e=.returned (.int .i64 0)/\∃m',PoolAt P (p.put id n) m'/\Sat E I (m'::ms) w':=by
 have hR:=hP.read;obtain⟨hf,A,cA,T,cT,vF,mA,mT,mF,hbd,hA,hT,hF⟩:=hP;obtain⟨g1,g2⟩:=G.Pl.nd_some.1 hn;have hlt:=(yE.1 g2).1;have his:p.isI (id:Int)=true:=G.Pl.isI_of g1 g2;have hput:p.put id n={ p with slots:=p.slots.set id (some n) }:=by unfold G.Pl.put;rw[jAb (by rw[hn];rfl)]
 have hmany:=G.many_set_same (m:=n) g2;have hfin:∀m',OwnP m' 194 5 (.slice (some ⟨A,0,none⟩) p.slots.length cA) p.slots.length (spl (p.slots.zipIdx.flatMap ndC) (id*5) (ndC (some n,id)))->∀w',Sat E I (PH.one P (.cells (plV p A cA T cT vF) 216)::m'::mT::mF::ms) w'->∃m',PoolAt P (p.put id n) m'/\Sat E I (m'::ms) w':=λm' hO w' hS'=>by
  obtain⟨m2,hb2,hS2⟩:=Sat.pack [PH.one P (.cells (plV p A cA T cT vF) 216),m',mT,mF] hS';refine⟨m2,⟨?_,A,cA,T,cT,vF,m',mT,mF,?_,?_,?_,by rw[hput];exact hF⟩,hS2⟩
  . rw[hput]
    exact hf.set (λ_ h=>by cases h;exact hfit) hf.free
  . rw[hput]
    simp only[plV,jJa,hmany];exact hb2
  . rw[hput]
    simp only[jJa];rw[<- zip_flat_set _ _ hlt];exact hO
  . rw[hput]
    simp only[jJa];rw[taken_put _ _ _ _ g2];exact hT
 have Hfin:=yH hfin;have HR:=yH hR;have HO:=yH hA;clear hfin hA hT hF hput hmany hn g2;have hS:=Sat.unpack hbd hS;have hlen:=hf.len;have hroom:=hf.room;have hall:∀(E' w':World) (J:PH) (ms':List PH),Sat E' J ms' w'->(∀q∈[PH.one P (.cells (plV p A cA T cT vF) 216),mA,mT,mF],q∈ms')->PoolR (Qa w') P p:=λ_ _ _ _ h hl=>by
  have:=h.all_le hl;rw[<- hbd.1] at this;exact HR.out.le this
 have Hall:=yH hall;clear hall;clear hf hR hbd HR;simp only[List.cons_append,List.nil_append] at hS;go_enter Tryz.func137,Tryz.ntmps137;go_wp2_with (first|(go_at_call 152;with_reducible refine bC (is_any (Hall.out _ _ _ _ hS (by simp)) _) ?_;rw[his])|(refine aN 3 ?_;clear hS;intro X w hS)|(refine aL ?_))
 obtain⟨I1,_,lX,hS1,bX⟩:=hS.ice;obtain⟨I2,l12,lP,hS2,bP⟩:=hS1.ice;have iX0:I2.at X 0=some (nv id):=PH.at_le l12 (PH.at_le lX (Qb rfl));have iXc:Cells I2 X 0 [nv id,nv n.v,nv n.lo,nv n.hi,nv n.refs]:=(Cells.one X #[nv id,nv n.v,nv n.lo,nv n.hi,nv n.refs] 194 (0,0)).le (lX.trans l12);have iP1:I2.at P 1=some (.slice (some ⟨A,0,none⟩) p.slots.length cA):=PH.at_le lP (Qb rfl);have HbX:=yH bX;have HbP:=yH bP;clear hS hS1 bX bP lX lP l12 Hall;refine Qf [[],[0],[0,1],[0,1,2],[],[4],[],[0,1,2,3,4,5,6],[0,1,2,3,4,5,6,7]] E I2 _
  [λv _=>v=vPt P,λv _=>v=vPt P,λv _=>v=.pointer (some ⟨P,1,none⟩),λv _=>v=.slice (some ⟨A,0,none⟩) p.slots.length cA,λv _=>v=.pointer (some ⟨X,0,none⟩),λv _=>v=nv id,λv _=>v=ndA id n,λv _=>v=.pointer (some ⟨A,id*5,none⟩),λ_ _=>True] [8]
  (set1G (mA::mT::mF::ms) 0 λm'=>OwnP m' 194 5 (.slice (some ⟨A,0,none⟩) p.slots.length cA) p.slots.length (spl (p.slots.zipIdx.flatMap ndC) (id*5) (ndC (some n,id)))) (by kernel_rfl) (by kernel_rfl) (by decide) hS2 rfl ?last (λ_ _ _ _ _ _ h=>h) (λ_ _ _ _ _ _ h=>h) ?plain ?step ?fin
 case last=>exact bL
 case plain=>(repeat' (first|exact trivial|apply And.intro)) <;> first|exact .inl rfl|(refine .inr ?_;intro s vals J bs w hstop hg hJ hS hG;clear hG;refine bS ?_;intro K HK;(first|(refine bJ ?_)|(go_wp2_with (fail)));exact bO)
 case step =>
  refine⟨trivial,?_⟩;intro vals J bs w hg hJ hS hG;have hG:bs=_:=hG;subst hG;refine bS ?_;intro K HK;refine Zz (i:=id) hS 0 rfl rfl rfl rfl HO.out rfl hlt Qz rfl (ndA_one id n) λm' w hO' hS=>?_
  . refine HK.out _ _ ⟨rfl,J,_,PH.le.refl _,hS,trivial,m',hO',rfl⟩
 case fin =>
  intro vals J bs w hJ hg hS hG;obtain⟨m',hO',hns⟩:=hG;subst hns;have hS:=hS.less hJ;have hE:=Hfin.out m' hO' w (by
   have:=HbX.out _ _ (HbP.out _ _ hS);exact this.drop)
  have HE:=yH hE;clear hE hS hO';refine bH ?_;clear hg;go_wp2
  go_ret;exact⟨rfl,HE.out⟩
end
section
open Go.RowKit
theorem bool_one(b:Bool):∀u∈(Value.cells (.bool b)).toList,u.oneCell'=true:=by simp[Value.cells,Value.oneCell']
theorem isAppend{P:Program}{ops:Array Oper}{Q:Exit->Act->World->Prop}{rest:List Oper}{a:Act}{w:World}{dst:Option Tmp}{type:TypeId}{pos:String}{after:Array Edge}{s x:Operand}{t t':TypeId}(h:wpList P ops Q (⟨dst,.call { callee:=.builtin .append,args := #[s,x],argTypes := #[t,t'] },type,pos,after,none⟩::rest) a w) :
 wpList P ops Q (⟨dst,.call { callee:=.builtin .append,args := #[s,x],argTypes := #[t,t'] },type,pos,after,none⟩::rest) a w:=h
theorem OwnP.cut{m:PH}{e:TypeId}{size n k c:Nat}{X:Nat}{xs:List Value}(h:OwnP m e size (.slice (some ⟨X,0,none⟩) n c) n xs)(hk:k<=n):OwnP m e size (.slice (some ⟨X,0,none⟩) k k) k (xs.take (k*size)):=by
 have hks:k*size<=n*size:=jSb _ hk;refine⟨by rw[jSa,h.1];omega,?_⟩;rcases h.2 with⟨h0,_⟩|⟨g,cap,cur,hv,hm,h1,h2,h3,h4⟩
 . cases h0
 . injection hv with hA _ hC
   injection hA with hA
   injection hA with hA
   subst hA hC;have hcs:k*size<=c*size:=jSb _ (by omega);refine .inr ⟨X,k,cur,rfl,hm,jBb _,by omega,by omega,?_⟩;rw[<- h4,List.take_take,kCa hks]
theorem OwnP.ptr{m:PH}{e:TypeId}{size n:Nat}{v:Value}{xs:List Value}(h:OwnP m e size v n xs)(hn:0<n):∃X c,v=.slice (some ⟨X,0,none⟩) n c/\n<=c:=by
 rcases h.2 with⟨_,h0,_⟩|⟨g,cap,cur,hv,_,hc,_⟩
 . omega
 . exact⟨g,cap,hv,hc⟩
theorem ptake_free(E w:World)(I m:PH)(ms:List PH)(P:Nat)(p:G.Pl)(id:Nat)(n:G.Nd)(hfr:p.free.getLast?=some id)(h0:id≠0)(hlt:id<p.slots.length)(hnone:p.slots[id]?=some none)(hfit:Fits n)(hP:PoolAt P p m)(hS:Sat E I (m::ms) w) :
  Calls Tryz.prog 153 #[.pointer (some ⟨P,0,none⟩),ndA 0 n] w λe w'=>e=.returned (.tuple #[nv id,.int .i64 0])/\∃m',PoolAt P { p with slots:=p.slots.set id (some n),free:=p.free.dropLast } m'/\Sat E I (m'::ms) w':=by
 obtain⟨hf,A,cA,T,cT,vF,mA,mT,mF,hbd,hA,hT,hF⟩:=hP;obtain⟨ys,hys⟩:=List.getLast?_eq_some_iff.1 hfr;have hfl:p.free.length=ys.length+1:=by rw[hys];simp
 obtain⟨F,cF,hvF,hcF⟩:=hF.ptr (by omega);subst hvF;have hlen:=hf.len;have hroom:=hf.room;have hfle:=hf.free;have hF2:OwnP mF 3 1 (.slice (some ⟨F,0,none⟩) ys.length ys.length) ys.length (ys.flatMap ivC):=by
  have:=hF.cut (k:=ys.length) (c:=cF) (by omega);rw[hys,jNb,kGb (by rw[Ks Kt];omega),jK (by rw[Ks Kt];omega)] at this;exact this
 have hmany:=G.many_set_some (n:=n) hlt hnone;have hml:=G.many_le p.slots;have hF':OwnP mF 3 1 (.slice (some ⟨F,0,none⟩) (ys.length+1) cF) (ys.length+1) (p.free.flatMap ivC):=by rw[hfl] at hF;exact hF
 have iF:Cells mF F ys.length (ivC id):=by
  have:=Qs Kt hF' (i:=ys.length) (x:=id) (by rw[hys];simp)
  rwa [jG] at this
 have hfin:∀m1 m2,OwnP m1 194 5 (.slice (some ⟨A,0,none⟩) p.slots.length cA) p.slots.length (spl (p.slots.zipIdx.flatMap ndC) (id*5) (ndC (some n,id)))->OwnP m2 4 1 (.slice (some ⟨T,0,none⟩) p.slots.length cT) p.slots.length (spl (p.slots.flatMap tkC) id (tkC (some n))) ->
   ∀w',Sat E I (PH.one P (.cells #[nv p.room,.slice (some ⟨A,0,none⟩) p.slots.length cA,.slice (some ⟨T,0,none⟩) p.slots.length cT,.slice (some ⟨F,0,none⟩) ys.length ys.length,.int .i64 ((G.many p.slots:Int)+1)] 216)::m1::m2::mF::ms) w'->∃m',PoolAt P { p with slots:=p.slots.set id (some n),free:=p.free.dropLast } m'/\Sat E I (m'::ms) w':=λm1 m2 hO1 hO2 w' hS'=>by
  have hdl:p.free.dropLast=ys:=by rw[hys,List.dropLast_concat]
  obtain⟨m3,hb2,hS2⟩:=Sat.pack [PH.one P (.cells #[nv p.room,.slice (some ⟨A,0,none⟩) p.slots.length cA,.slice (some ⟨T,0,none⟩) p.slots.length cT,.slice (some ⟨F,0,none⟩) ys.length ys.length,.int .i64 ((G.many p.slots:Int)+1)] 216),m1,m2,mF] hS';refine⟨m3,⟨hf.set (λ_ h=>by cases h;exact hfit) (by rw[hdl];omega),A,cA,T,cT,.slice (some ⟨F,0,none⟩) ys.length ys.length,m1,m2,mF,?_,?_,?_,by rw[hdl];exact hF2⟩,hS2⟩
  . simp only[plV,jJa,hmany]
    rw[show nv (G.many p.slots+1)=.int .i64 ((G.many p.slots:Int)+1) by simp[nv]];exact hb2
  . simp only[jJa]
    rw[<- zip_flat_set _ _ hlt];exact hO1
  . simp only[jJa]
    rw[<- flat_set tkC_len _ _ hlt,jG];exact hO2
 have Hfin:=yH hfin;have HOA:=yH hA;have HOT:=yH hT;have hS:=Sat.unpack hbd hS;have HiF:=yH iF;clear hfin hA hT hF hF' hF2 hmany hf hbd iF hnone hfr;rw[hfl] at hS hfle;simp only[plV,List.cons_append,List.nil_append] at hS;generalize hk:ys.length=k at *
 have hkk:((k+1:Nat):Int)-1=(k:Int):=by omega
 go_enter Tryz.func153,Tryz.ntmps153;go_wp2_with (first|((with_reducible refine Qe ?_);(refine' Xx (v:=nv id) (.inr (List.Mem.tail _ (List.Mem.tail _ (List.Mem.tail _ (List.Mem.tail _ (List.Mem.head _)))))) hS rfl rfl Qh rfl (HiF.out.at 0 rfl) ?_);refine aM ?_)|(refine aN 3 ?_;clear hS;intro X w hS)|(refine aL ?_)|(refine aS ?_;clear hS;intro w hS))
 obtain⟨I1,_,lX,hS1,bX⟩:=hS.ice;obtain⟨I2,l12,lP,hS2,bP⟩:=hS1.ice;have iXc:Cells I2 X 0 [nv id,nv n.v,nv n.lo,nv n.hi,nv n.refs]:=(Cells.one X #[nv id,nv n.v,nv n.lo,nv n.hi,nv n.refs] 194 (0,0)).le (lX.trans l12);have iP1:I2.at P 1=some (.slice (some ⟨A,0,none⟩) p.slots.length cA):=PH.at_le lP (Qb rfl);have iP2:I2.at P 2=some (.slice (some ⟨T,0,none⟩) p.slots.length cT):=PH.at_le lP (Qb rfl);have HbX:=yH bX;have HbP:=yH bP;clear hS hS1 bX bP lX lP l12;refine Qf [[],[0],[0,1],[0,1,2],[],[],[5],[5,6],[5,6,7],[],[],[0,1,2,3,4,5,6,7,8,10],[0,1,2,3,4,5,6,7,8,10,11],[0,1,2,3,4,5,6,7,8,9,10,11,12],[0,1,2,3,4,5,6,7,8,9,10,11,12,13]] E I2 _
  [λv _=>v=vPt P,λv _=>v=vPt P,λv _=>v=.pointer (some ⟨P,1,none⟩),λv _=>v=.slice (some ⟨A,0,none⟩) p.slots.length cA,λv _=>v=nv id,λv _=>v=vPt P,λv _=>v=vPt P,λv _=>v=.pointer (some ⟨P,2,none⟩),λv _=>v=.slice (some ⟨T,0,none⟩) p.slots.length cT,λv _=>v=nv id,λv _=>v=ndA id n,λv _=>v=.pointer (some ⟨A,id*5,none⟩),λ_ _=>True,λv _=>v=.pointer (some ⟨T,id,none⟩),λ_ _=>True] [12,14]
  (set2G _ 0 1 (λm'=>OwnP m' 194 5 (.slice (some ⟨A,0,none⟩) p.slots.length cA) p.slots.length (spl (p.slots.zipIdx.flatMap ndC) (id*5) (ndC (some n,id)))) (λm'=>OwnP m' 4 1 (.slice (some ⟨T,0,none⟩) p.slots.length cT) p.slots.length (spl (p.slots.flatMap tkC) id (tkC (some n))))) (by kernel_rfl) (by kernel_rfl) (by decide) hS2 rfl ?last (λ_ _ _ _ _ _ h=>h) (λ_ _ _ _ _ _ h=>h) ?plain ?step ?fin
 case last=>exact bL
 case plain=>(repeat' (first|exact trivial|apply And.intro)) <;> first|exact .inl rfl|(refine .inr ?_;intro s vals J bs w hstop hg hJ hS hG;clear hG;refine bS ?_;intro K HK;(first|(refine bJ ?_)|(go_wp2_with (fail)));exact bO)
 case step =>
  refine⟨⟨trivial,?_⟩,?_⟩
  . intro vals J bs w hg hJ hS hG
    have hG:bs=_:=hG;subst hG;refine bS ?_;intro K HK;refine Zz (i:=id) hS 0 rfl rfl rfl rfl HOA.out rfl hlt Qz rfl (ndA_one id n) λm' w hO' hS=>?_
    exact HK.out _ _ ⟨rfl,J,_,PH.le.refl _,hS,trivial,m',hO',rfl⟩
  . intro vals J bs w hg hJ hS hG
    refine Veil.out ?_;obtain⟨mm,hmm,hG⟩:=hG;subst hG;refine⟨?_⟩;refine bS ?_;intro K HK;refine Zz (i:=id) hS 1 rfl rfl rfl rfl HOT.out (jG id).symm hlt ty_sz4 rfl (bool_one true) λm' w hO' hS=>?_
    exact HK.out _ _ ⟨rfl,J,_,PH.le.refl _,hS,trivial,mm,m',hmm,hO',rfl⟩
 case fin =>
  intro vals J bs w hJ hg hS hG;obtain⟨m1,m2,hO1,hO2,hns⟩:=hG;subst hns;have hS:=hS.less hJ;have hS:=(HbX.out _ _ (HbP.out _ _ hS)).drop;have HO1:=yH hO1;have HO2:=yH hO2;clear hO1 hO2;refine bH ?_;clear hg;simp only[zF,zG] at hS;go_wp2_with (first|(refine aL ?_)|(refine aS ?_;clear hS;intro w hS))
  go_ret2;exact⟨rfl,Hfin.out _ _ HO1.out HO2.out _ hS⟩
theorem PlFit.push{p:G.Pl}(h:PlFit p){n:G.Nd}(hn:Fits n)(hl:p.slots.length<=p.room):PlFit { p with slots:=p.slots++[some n] }:=by
 refine⟨h.room,by simp,by simp;omega,by simp;have:=h.free;omega,λi a ha=>?_⟩;have ha:(p.slots++[some n])[i]?=some (some a):=ha;rcases jYb i p.slots.length with hi|hi
 . rw[jHa hi] at ha;exact h.nd i a ha
 . rw[jOa hi] at ha
   cases hj:i-p.slots.length with
   | zero=>rw[hj] at ha;simp at ha;subst ha;exact hn
   | succ j=>rw[hj] at ha;simp at ha
theorem spl_end(xs us:List Value)(n:Nat)(h:xs.length=n)(vs:List Value)(hl:us.length=vs.length):spl (xs++us) n vs=xs++vs:=by
 subst h;unfold spl;rw[qD,<- hl,kAb (by simp)];simp
theorem ptake_new(E w:World)(I m:PH)(ms:List PH)(P:Nat)(p:G.Pl)(n:G.Nd)(hfr:p.free=[])(hle:p.slots.length<=p.room)(hfit:Fits n)(hP:PoolAt P p m)(hS:Sat E I (m::ms) w) :
  Calls Tryz.prog 153 #[.pointer (some ⟨P,0,none⟩),ndA 0 n] w λe w'=>e=.returned (.tuple #[nv p.slots.length,.int .i64 0])/\∃m',PoolAt P { p with slots:=p.slots++[some n] } m'/\Sat E I (m'::ms) w':=by
 obtain⟨hf,A0,cA0,T0,cT0,vF,mA,mT,mF,hbd,hA,hT,hF⟩:=hP;obtain⟨nF,cF,hvF,_⟩:=hF.shape;subst hvF;have hlen:=hf.len;have hroom:=hf.room;have hmany:G.many (p.slots++[some n])=G.many p.slots+1:=by rw[G.many_append];rfl
 have hml:=G.many_le p.slots;have hfin:∀A cA T cT m1 m2,OwnP m1 194 5 (.slice (some ⟨A,0,none⟩) (p.slots.length+1) cA) (p.slots.length+1) (spl (p.slots.zipIdx.flatMap ndC++node0.toList) (p.slots.length*5) (ndC (some n,p.slots.length)))->OwnP m2 4 1 (.slice (some ⟨T,0,none⟩) (p.slots.length+1) cT) (p.slots.length+1) (spl (p.slots.flatMap tkC++[.bool false]) p.slots.length (tkC (some n))) ->
   ∀w',Sat E I (PH.one P (.cells #[nv p.room,.slice (some ⟨A,0,none⟩) (p.slots.length+1) cA,.slice (some ⟨T,0,none⟩) (p.slots.length+1) cT,.slice nF p.free.length cF,.int .i64 ((G.many p.slots:Int)+1)] 216)::m1::m2::mF::ms) w'->∃m',PoolAt P { p with slots:=p.slots++[some n] } m'/\Sat E I (m'::ms) w':=λA cA T cT m1 m2 hO1 hO2 w' hS'=>by
  obtain⟨m3,hb2,hS2⟩:=Sat.pack [PH.one P (.cells #[nv p.room,.slice (some ⟨A,0,none⟩) (p.slots.length+1) cA,.slice (some ⟨T,0,none⟩) (p.slots.length+1) cT,.slice nF p.free.length cF,.int .i64 ((G.many p.slots:Int)+1)] 216),m1,m2,mF] hS';have e1:(p.slots++[some n]).length=p.slots.length+1:=by simp
  refine⟨m3,⟨hf.push hfit hle,A,cA,T,cT,.slice nF p.free.length cF,m1,m2,mF,?_,?_,?_,hF⟩,hS2⟩
  . simp only[plV,e1,hmany]
    rw[show nv (G.many p.slots+1)=.int .i64 ((G.many p.slots:Int)+1) by simp[nv]];exact hb2
  . simp only[e1]
    rw[spl_end _ _ _ (by rw[Ks ndC_len];simp) _ (by rw[ndC_len];rfl)] at hO1;rw[List.zipIdx_append,jNb]
    simpa using hO1
  . simp only[e1]
    rw[spl_end _ _ _ (by rw[Ks tkC_len];simp) _ (by rw[tkC_len];rfl)] at hO2;rw[jNb]
    simpa using hO2
 have Hfin:=yH hfin;have HF:=yH hF;have hS:=Sat.unpack hbd hS;have hk0:p.free.length=0:=by rw[hfr];rfl
 clear hfin hF hmany hf hbd hfr;simp only[plV,List.cons_append,List.nil_append] at hS;rw[hk0] at hS Hfin;generalize hid:p.slots.length=id at *
 have hlt:id<id+1:=kIb _;have hdec:decide ((p.room:Int)<(id:Int))=false:=by rw[jD];omega
 have hdecN:decide (p.room<id)=false:=by rw[jD];omega
 go_enter Tryz.func153,Tryz.ntmps153;go_wp2_with (first|(refine aN 3 ?_;clear hS;intro X w hS)|(refine aL ?_))
 obtain⟨I1,_,lX,hS1,bX⟩:=hS.ice;obtain⟨I2,l12,lP,hS2,bP⟩:=hS1.ice;have iP0:I2.at P 0=some (nv p.room):=PH.at_le lP (Qb rfl);have iP1:I2.at P 1=some (.slice (some ⟨A0,0,none⟩) id cA0):=PH.at_le lP (Qb rfl);have HbX:=yH bX;have HbP:=yH bP;have HOA:=yH hA;have HOT:=yH hT;clear hS hS1 bX bP lX lP l12 hA hT;refine Qf [[],[0],[0,1],[0,1,2],[0,1,2,3],[],[5],[5,6],[5,6,7],[0,1,2,3,4,5,6,7,8]] E I2 _
  [λv _=>v=vPt P,λv _=>v=vPt P,λv _=>v=.pointer (some ⟨P,1,none⟩),λv _=>v=.slice (some ⟨A0,0,none⟩) id cA0,λv _=>v=nv id,λv _=>v=vPt P,λv _=>v=vPt P,λv _=>v=.pointer (some ⟨P,0,none⟩),λv _=>v=nv p.room,λv _=>v=.bool false] []
  (λ_ _ _ ns=>ns=mA::mT::mF::ms) (by kernel_rfl) (by kernel_rfl) (by decide) hS2 rfl ?last (λ_ _ _ _ _ _ h=>h) (λ_ _ _ _ _ _ h=>h) ?plain ?step ?fin
 case last=>exact bL
 case plain =>
  (repeat' (first|exact trivial|apply And.intro)) <;>  (refine .inr ?_;intro s vals J bs w hstop hg hJ hS hG;clear hG;refine bS ?_;intro K HK;(first|(refine bJ ?_)|(go_wp2_with (fail)));exact bO)
 case step=>trivial
 case fin =>
  intro vals J bs w hJ hg hS hG;have hG:bs=_:=hG;subst hG;have hS:=hS.less hJ;have hS:=HbX.out _ _ (HbP.out _ _ hS);clear HbX HbP iP0 iP1;refine bH ?_;clear hg;go_wp2_with (first|((with_reducible refine isAppend ?_);(refine' apP (p:=_) (m:=_) (v:=_) (n:=_) (xs:=_) (news:=_) 3 (.inr (List.Mem.head _)) hS rfl rfl rfl Tryz.underlying214 node_info rfl (by decide) rfl HOA.out rfl ?hl ?hcl ?h1 ?h63 ?hby ?_);(case hcl=>exact Cells.one _ _ _ _);(case hl=>rfl);(case h1=>rfl);(case h63=>(unfold maxLen;omega));(case hby=>omega);clear hS;intro v1 m1 w hO1 hS;refine Veil.out ?_;obtain⟨A,cA,rfl,_⟩:=OwnP.ptr hO1 (Nat.succ_pos _);refine⟨?_⟩;have HO1:=yH hO1;clear hO1;(try simp only[zF,zG] at hS);refine aM ?_)|((with_reducible refine isAppend ?_);(refine' apP (p:=_) (m:=_) (v:=_) (n:=_) (xs:=_) (news:=_) 5 (.inr (List.Mem.head _)) hS rfl rfl rfl Tryz.underlying24 bool_info rfl (by decide) rfl HOT.out rfl ?hl ?hcl ?h1 ?h63 ?hby ?_);(case hcl=>exact Cells.one _ _ _ _);(case hl=>rfl);(case h1=>rfl);(case h63=>(unfold maxLen;omega));(case hby=>omega);clear hS;intro v1 m2 w hO2 hS;refine Veil.out ?_;obtain⟨T,cT,rfl,_⟩:=OwnP.ptr hO2 (Nat.succ_pos _);refine⟨?_⟩;have HO2:=yH hO2;clear hO2;(try simp only[zF,zG] at hS);refine aM ?_)|(refine aL ?_)|(refine aS ?_;clear hS;intro w hS)|(refine aY ?_;clear hS;intro XS w hS))
  have hS:=hS.drop.drop;obtain⟨I1,_,lX,hS1,bX⟩:=hS.ice;obtain⟨I2,l12,lP,hS2,bP⟩:=hS1.ice;have iXc:Cells I2 X 0 [nv id,nv n.v,nv n.lo,nv n.hi,nv n.refs]:=(Cells.one X #[nv id,nv n.v,nv n.lo,nv n.hi,nv n.refs] 194 (0,0)).le (lX.trans l12);have iP1:I2.at P 1=some (.slice (some ⟨A,0,none⟩) (id+1) cA):=PH.at_le lP (Qb rfl);have iP2:I2.at P 2=some (.slice (some ⟨T,0,none⟩) (id+1) cT):=PH.at_le lP (Qb rfl);have HbX:=yH bX;have HbP:=yH bP;clear hS hS1 bX bP lX lP l12;refine Qf [[],[0],[0,1],[0,1,2],[],[],[5],[5,6],[5,6,7],[],[],[0,1,2,3,4,5,6,7,8,10],[0,1,2,3,4,5,6,7,8,10,11],[0,1,2,3,4,5,6,7,8,9,10,11,12],[0,1,2,3,4,5,6,7,8,9,10,11,12,13]] E I2 _
   [λv _=>v=vPt P,λv _=>v=vPt P,λv _=>v=.pointer (some ⟨P,1,none⟩),λv _=>v=.slice (some ⟨A,0,none⟩) (id+1) cA,λv _=>v=nv id,λv _=>v=vPt P,λv _=>v=vPt P,λv _=>v=.pointer (some ⟨P,2,none⟩),λv _=>v=.slice (some ⟨T,0,none⟩) (id+1) cT,λv _=>v=nv id,λv _=>v=ndA id n,λv _=>v=.pointer (some ⟨A,id*5,none⟩),λ_ _=>True,λv _=>v=.pointer (some ⟨T,id,none⟩),λ_ _=>True] [12,14]
   (set2G _ 0 1 (λm'=>OwnP m' 194 5 (.slice (some ⟨A,0,none⟩) (id+1) cA) (id+1) (spl (p.slots.zipIdx.flatMap ndC++node0.toList) (id*5) (ndC (some n,id)))) (λm'=>OwnP m' 4 1 (.slice (some ⟨T,0,none⟩) (id+1) cT) (id+1) (spl (p.slots.flatMap tkC++[.bool false]) id (tkC (some n))))) (by kernel_rfl) (by kernel_rfl) (by decide) hS2 rfl ?last (λ_ _ _ _ _ _ h=>h) (λ_ _ _ _ _ _ h=>h) ?plain ?step ?fin
  case last=>exact bL
  case plain=>(repeat' (first|exact trivial|apply And.intro)) <;> first|exact .inl rfl|(refine .inr ?_;intro s vals J bs w hstop hg hJ hS hG;clear hG;refine bS ?_;intro K HK;(first|(refine bJ ?_)|(go_wp2_with (fail)));exact bO)
  case step =>
   refine⟨⟨trivial,?_⟩,?_⟩
   . intro vals J bs w hg hJ hS hG
     have hG:bs=_:=hG;subst hG;refine bS ?_;intro K HK;refine Zz (i:=id) hS 0 rfl rfl rfl rfl HO1.out rfl hlt Qz rfl (ndA_one id n) λm' w hO' hS=>?_
     exact HK.out _ _ ⟨rfl,J,_,PH.le.refl _,hS,trivial,m',hO',rfl⟩
   . intro vals J bs w hg hJ hS hG
     refine Veil.out ?_;obtain⟨mm,hmm,hG⟩:=hG;subst hG;refine⟨?_⟩;refine bS ?_;intro K HK;refine Zz (i:=id) hS 1 rfl rfl rfl rfl HO2.out (jG id).symm hlt ty_sz4 rfl (bool_one true) λm' w hO' hS=>?_
     exact HK.out _ _ ⟨rfl,J,_,PH.le.refl _,hS,trivial,mm,m',hmm,hO',rfl⟩
  case fin =>
   intro vals J bs w hJ hg hS hG;obtain⟨m1,m2,hO1,hO2,hns⟩:=hG;subst hns;have hS:=hS.less hJ;have hS:=(HbX.out _ _ (HbP.out _ _ hS)).drop;have HO1:=yH hO1;have HO2:=yH hO2;clear hO1 hO2;refine bH ?_;clear hg;simp only[zF,zG] at hS;go_wp2_with (first|(refine aL ?_)|(refine aS ?_;clear hS;intro w hS))
   go_ret2;exact⟨rfl,Hfin.out _ _ _ _ _ _ HO1.out HO2.out _ hS⟩
end
end Go.Proofs.YtidamcdklgfogaaGreat
