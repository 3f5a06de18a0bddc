import Derived.Test.YtidamcdklgfogaaGreatUay
set_option linter.unusedVariables false
set_option linter.unusedSimpArgs false
set_option maxRecDepth 100000
set_option maxHeartbeats 8000000
namespace Go.Proofs.YtidamcdklgfogaaGreat
namespace G
theorem Step.then_ok{α β:Type}{s:Step α}{f:Mg->α->Step β}{m':Mg}{b:β}(h:s.then f=some (m',.ok b)):∃m1 a,s=some (m1,.ok a)/\f m1 a=some (m',.ok b):=by
 unfold Step.then at h;cases s with
 | none=>cases h
 | some x =>
   obtain⟨m1,rs⟩:=x;cases rs with
   | ok a=>exact⟨m1,a,rfl,h⟩
   | stop s=>cases h
theorem Step.then_ok2{α β:Type}(m:Mg)(a:α)(f:Mg->α->Step β):Step.then (some (m,.ok a)) f=f m a:=rfl
theorem Step.then_assoc{α β γ:Type}(s:Step α)(f:Mg->α->Step β)(g:Mg->β->Step γ):(s.then f).then g=s.then λm a=>(f m a).then g:=by
 unfold Step.then;cases s with
 | none=>rfl
 | some x =>
   obtain⟨m1,rs⟩:=x;cases rs <;> rfl
def rowE(r:Rw3)(m:Mg)(ns:List Nat):Step Nat:=(m.mk_ r.v 1 0).then λm v=>m.ite fuel v (flipIf (ns.getD (r.hi.toNat/2) 0) (r.hi.toNat%2==1)) (flipIf (ns.getD (r.lo.toNat/2) 0) (r.lo.toNat%2==1))
theorem loadE_cons(r:Rw3)(l:List Rw3)(m:Mg)(ns:List Nat):loadE (r::l) m ns=(rowE r m ns).then λm k=>loadE l m (ns++[k]):=by
 unfold rowE;rw[Step.then_assoc];rfl
theorem loadE_append:∀(a b:List Rw3) (m:Mg) (ns:List Nat),loadE (a++b) m ns=(loadE a m ns).then λm ns=>loadE b m ns
 | [],b,m,ns=>rfl
 | r::a,b,m,ns=>by
   rw[List.cons_append,loadE_cons,loadE_cons,Step.then_assoc];congr 1
   funext m k
   exact loadE_append a b m (ns++[k])
theorem loadE_len:∀(l:List Rw3) (m m':Mg) (ns ns':List Nat),loadE l m ns=some (m',.ok ns')->ns'.length=ns.length+l.length
 | [],m,m',ns,ns',h=>by cases h;rfl
 | r::l,m,m',ns,ns',h=>by
   rw[loadE_cons] at h;obtain⟨m1,k,_,h2⟩:=Step.then_ok h;rw[loadE_len l _ _ _ _ h2];simp only[yG,yB,yC];omega
end G
section
open Go.RowKit
structure LoadOk (Inv:G.Mg->Prop) (rows:List G.Rw3):Prop where
 pre:∀m,Inv m->∀i mi ns,G.loadE (rows.take i) m [0]=some (mi,.ok ns)->Inv mi/\∀x∈ns,x<4611686018427387904
 mkv:∀r∈rows,∀m m' x,Inv m->m.mk_ r.v 1 0=some (m',.ok x)->Sane m'.s/\x<4611686018427387904
 refs:∀(i:Nat) r,rows[i]?=some r->0<=r.lo/\0<=r.hi/\r.lo.toNat/2<=i/\r.hi.toNat/2<=i
def Row3R(J:PH)(v:Value)(l:List G.Rw3):Prop:=(l=[]/\v=.slice none 0 0)\/∃X o c,v=.slice (some ⟨X,o,none⟩) l.length c/\l.length<=c/\∀(i:Nat) x,l[i]?=some x->Cells J X (o+i*3) (rowC x)
theorem Row3R.le{I J:PH}{v:Value}{l:List G.Rw3}(h:Row3R I v l)(hJ:I.le J):Row3R J v l:=by
 rcases h with h|⟨X,o,c,h1,h2,h3⟩
 . exact .inl h
 . exact .inr ⟨X,o,c,h1,h2,λi x hx=>(h3 i x hx).le hJ⟩
theorem sl_head(A:Option Addr)(n c k:Nat)(hA:A=none\/∃X o,A=some ⟨X,o,none⟩)(hk:k<=c)(w:World):(Instr.slice 22 (.slice A n c) none (some (.int .i64 (k:Int))) none).run Tryz.prog w=.ok (.slice A k c) w:=by
 have ht:Tryz.prog.underlying 22=some (.slice (Tryz.prog.elem 22)):=by kernel_rfl
 have hs:(sizeOf (Tryz.prog.elem 22)).run Tryz.prog w=.ok 3 w:=by kernel_rfl
 rw[run_slice_h w _ _ n c ht .i64 k (by omega) (by omega),hs];simp only[Result.andThen,sliced,Int.toNat_natCast,Nat.sub_zero,kWa];rcases hA with rfl|⟨X,o,rfl⟩
 . simp
 . simp[Addr.add]
theorem Row3R.shape{J:PH}{v:Value}{l:List G.Rw3}(h:Row3R J v l):∃A c,v=.slice A l.length c/\(∀k,k<=l.length->∀w:World,(Instr.slice 22 (.slice A l.length c) none (some (.int .i64 (k:Int))) none).run Tryz.prog w=.ok (.slice A k c) w)/\(0<l.length->∃X o,A=some ⟨X,o,none⟩/\∀(i:Nat) x,l[i]?=some x->Cells J X (o+i*3) (rowC x)):=by
 rcases h with⟨rfl,rfl⟩|⟨X,o,c,rfl,h2,h3⟩
 . exact⟨none,0,rfl,λk hk w=>sl_head _ _ _ _ (.inl rfl) (by simpa using hk) w,λh=>by simp at h⟩
 . exact⟨_,c,rfl,λk hk w=>sl_head _ _ _ _ (.inr ⟨X,o,rfl⟩) (by omega) w,λ_=>⟨X,o,rfl,h3⟩⟩
theorem edge_info:(Tryz.prog.info? 102).map (λi=>(i.zero,i.size,i.bytes))=some (some (.int .i64 0),1,8):=by kernel_rfl
def ldG(D X5:Nat)(vr:Value)(mr p:PH)(m2:G.Mg)(k:Nat)(l:List Nat)(rest:List PH)(s:Nat)(vals:Nat->Value)(_:PH)(bs:List PH):Prop :=
 match s with
 | 0=>bs=PH.one X5 (.cells #[vr] 119)::mr::p::rest
 | 1=>∃p1,MgAt D m2 p1/\bs=PH.one X5 (.cells #[vr] 119)::mr::p1::rest
 | 2=>∃p1 XS,MgAt D m2 p1/\vals 12=.slice (some ⟨XS,0,none⟩) 1 1/\bs=PH.one XS (.cells #[nv k] 102)::PH.one X5 (.cells #[vr] 119)::mr::p1::rest
 | 3=>∃p1 XS mr',MgAt D m2 p1/\OwnP mr' 102 1 (vals 13) (l.length+1) (l.flatMap ivC++[nv k])/\bs=PH.one XS (.cells #[nv k] 102)::PH.one X5 (.cells #[vr] 119)::mr'::p1::rest
 | _=>∃p1 XS mr',MgAt D m2 p1/\OwnP mr' 102 1 (vals 13) (l.length+1) (l.flatMap ivC++[nv k])/\bs=PH.one XS (.cells #[nv k] 102)::PH.one X5 (.cells #[vals 13] 119)::mr'::p1::rest
section
variable{D X5:Nat} {vr:Value} {mr p:PH} {m2:G.Mg} {k:Nat} {l:List Nat} {rest:List PH}
theorem ldG_st(s:Nat)(vals vals':Nat->Value)(J:PH)(bs:List PH)(h:∀j∈[11,12,13,14].take s,vals j=vals' j)(hG:ldG D X5 vr mr p m2 k l rest s vals J bs):ldG D X5 vr mr p m2 k l rest s vals' J bs:=by
 match s,h,hG with
 | 0,h,hG=>exact hG
 | 1,h,hG=>exact hG
 | 2,h,hG =>
   obtain⟨p1,XS,h1,h2,h3⟩:=hG;exact⟨p1,XS,h1,by rw[<- h 12 (by simp)];exact h2,h3⟩
 | 3,h,hG =>
   obtain⟨p1,XS,mr',h1,h2,h3⟩:=hG;exact⟨p1,XS,mr',h1,by rw[<- h 13 (by simp)];exact h2,h3⟩
 | s+4,h,hG =>
   obtain⟨p1,XS,mr',h1,h2,h3⟩:=hG;have e:=h 13 (by simp);exact⟨p1,XS,mr',h1,by rw[<- e];exact h2,by rw[<- e];exact h3⟩
theorem ldG_x5{s:Nat}{vals:Nat->Value}{J:PH}{bs:List PH}(hs:s<=2)(hG:ldG D X5 vr mr p m2 k l rest s vals J bs):PH.one X5 (.cells #[vr] 119)∈bs:=by
 match s,hs,hG with
 | 0,_,hG =>
   have hG:bs=_:=hG;rw[hG];simp
 | 1,_,hG=>obtain⟨p1,_,rfl⟩:=hG;simp
 | 2,_,hG=>obtain⟨p1,XS,_,_,rfl⟩:=hG;simp
 | s+3,h,hG=>omega
end
theorem load1_op{D X1 X2:Nat}{J:PH}{Inv:G.Mg->Prop}(hK:KeepsM Inv){rows:List G.Rw3}{root:Nat}{vl:Value}(hl:rows.length<=1000000)(h1:J.at X1 0=some vl)(hvl:Row3R J vl rows)(h2:J.at X2 0=some (nv root))(hroot:root/2<=rows.length)(hL:LoadOk Inv rows) :
  OpP 61 #[vPt X1,vPt X2] D J Inv (G.load1 rows root) where
 enter:=λargs w=>by kernel_rfl
 run:=by
  intro E I p q0 ms w m m' rs X hJ1 hI hF hX hA hq hS;subst hq;have i1:I.at X1 0=some vl:=PH.at_le hJ1 h1;have i2:I.at X2 0=some (nv root):=PH.at_le hJ1 h2;obtain⟨A,c,rfl,hsl,hcells⟩:=(hvl.le hJ1).shape;have hsl:=hsl _ hroot;have d1:((root:Nat):Int)/2=((root/2:Nat):Int):=by omega
  have HC:=yH hcells;have HA:=yH hA;have HF:=yH hF;have HI:=yH hI;have HL:=yH hL;have HKm:=yH hK;clear hJ1 h1 h2 hvl hcells hA hF hI hL hK;generalize hN:root/2=N at *
  have HN0:=yH hN;clear hN;have hmf:∀(fn:Fn) (first cap:Array Value) (w:World),(Instr.makeFunc fn first cap).run Tryz.prog w=.ok (.func fn first cap) w:=λ_ _ _ _=>rfl
  show Calls _ _ #[vPt X,vPt X1,vPt X2] _ _
  go_enter Tryz.func61,Tryz.ntmps61;go_wp2_with (first|(refine aN 5 ?_;clear hS;intro X5 w hS)|(refine aN 10 ?_;clear hS;intro XS w hS)|(refine aL ?_)|(refine aS ?_;clear hS;intro w hS))
  go_loopw [17] (λv17 wr=>∃(i:Nat) (mi:G.Mg) (l:List Nat) (vr:Value) (mr p:PH),i<=N/\v17=.int .i64 (i:Int)/\G.loadE (rows.take i) m [0]=some (mi,.ok l)/\MgAt D mi p/\OwnP mr 102 1 vr l.length (l.flatMap ivC)/\Sat E I (PH.one X5 (.cells #[vr] 119)::mr::p::ms) wr) (λv17 _=>(N-intOf v17).toNat)
  case atStart=>exact⟨0,m,[0],_,_,p,jC _,rfl,rfl,HA.out,OwnP.lit XS 102 1 1 #[nv 0] (by decide) rfl,hS.sub (.cons_cons _ (.cons_cons _ (.cons_cons _ (.cons _ (kBb _)))))⟩
  case round =>
   clear hS HA;obtain⟨i,mi,l,vr,mr,p,hi,rfl,hpre,hA,hO,hS⟩:=hrel;have hll:=G.loadE_len _ _ _ _ _ hpre;rw[jSa,kCa (by omega),List.length_singleton] at hll;obtain⟨hIi,hli⟩:=HL.out.pre _ HI.out _ _ _ hpre;have hOr:=hO.num;have hf:=HF.out;unfold G.load1 at hf;rw[HN0.out] at hf;by_cases hlt:i<N
   . obtain⟨r,hr⟩:∃r,rows[i]?=some r:=⟨_,yA (by omega)⟩
     obtain⟨Y,oY,rfl,hcell⟩:=HC.out (by omega);have hcell:=hcell i r hr;obtain⟨f1,f2,f3,f4⟩:=HL.out.refs i r hr;have hmk:=HL.out.mkv r (jCb hr) mi;obtain⟨v,lo,hi2⟩:=r;simp only at f1 f2;obtain⟨lo,rfl⟩:=jYa f1;obtain⟨hi2,rfl⟩:=jYa f2;simp only[Int.toNat_natCast] at f3 f4;have htk:rows.take (i+1)=rows.take i++[⟨v,(lo:Int),(hi2:Int)⟩]:=by rw[jR,hr];rfl
     have hsplit:rows.take N=rows.take i++⟨v,(lo:Int),(hi2:Int)⟩::(rows.take N).drop (i+1):=by
      have e1:rows.take i=(rows.take N).take i:=by rw[List.take_take,kCa (by omega)]
      have e2:(rows.take N).drop i=⟨v,(lo:Int),(hi2:Int)⟩::(rows.take N).drop (i+1):=by
       rw[jL (by rw[jSa];omega)];congr 1
       have:=yA (l:=rows) (i:=i) (by omega);rw[hr] at this;injection this with this
       rw[List.getElem_take];exact this.symm
      rw[e1,<- e2,kGa]
     rw[hsplit,G.loadE_append,hpre] at hf;simp only[G.Step.then_ok2] at hf;rw[G.loadE_cons] at hf;unfold G.rowE at hf;simp only[Int.toNat_natCast] at hf;have iN:(i:Int)<(N:Int):=by omega
     have HGa:=yH (λ(w:World) (h5:(Qa w).at X5 0=some vr) (hO:NumR (Qa w) vr l)=>lget_any h5 hO hi2 (by omega) (by omega) hli);have HGb:=yH (λ(w:World) (h5:(Qa w).at X5 0=some vr) (hO:NumR (Qa w) vr l)=>lget_any h5 hO lo (by omega) (by omega) hli);have ha:G.flipIf (l.getD (hi2/2) 0) (hi2%2==1)<4611686018427387904:=Kh (by
      rw[yD,yA (by omega:hi2/2<l.length)];exact hli _ (jWb _)) _
     have hb:G.flipIf (l.getD (lo/2) 0) (lo%2==1)<4611686018427387904:=Kh (by
      rw[yD,yA (by omega:lo/2<l.length)];exact hli _ (jWb _)) _
     have hpre':∀m1 x m2 k,mi.mk_ v 1 0=some (m1,.ok x)->m1.ite G.fuel x (G.flipIf (l.getD (hi2/2) 0) (hi2%2==1)) (G.flipIf (l.getD (lo/2) 0) (lo%2==1))=some (m2,.ok k)->G.loadE (rows.take (i+1)) m [0]=some (m2,.ok (l++[k])):=λm1 x m2 k h1 h2=>by
      rw[htk,G.loadE_append,hpre];simp only[G.Step.then_ok2];rw[G.loadE_cons];unfold G.rowE;simp only[Int.toNat_natCast];rw[h1];simp only[G.Step.then_ok2];rw[h2];rfl
     generalize G.flipIf (l.getD (hi2/2) 0) (hi2%2==1)=ea at *
     generalize G.flipIf (l.getD (lo/2) 0) (lo%2==1)=eb at *
     have HN:=yH hOr;have HO:=yH hO;clear hsplit htk hr hO hOr f1 f2 HC;cases hm1:mi.mk_ v 1 0 with
     | none=>rw[hm1] at hf;cases hf
     | some y =>
       obtain⟨m1,r1⟩:=y;have HM:=yH (λ(w:World) (ms':List PH) (h:Sat E I (p::ms') w)=>xmk_any v 1 0 hm1 hX (by omega) (by omega) (HKm.out.sane _ hIi).tab hA h);rw[hm1] at hf;cases r1 with
       | stop st =>
         have e:m'=m1/\rs=.stop st:=by cases hf;exact⟨rfl,rfl⟩
         obtain⟨rfl,rfl⟩:=e;simp only[Yl] at HM;clear hf hpre hpre' hm1 hA hIi hli hmk HGa HGb HN HO HF HL HKm HI;go_wp2_with (first|(go_at_call 63;(with_reducible refine bD (HM.out _ _ (hS.pick 3 rfl)) ?_);clear hS;intro w p1 HA1 hS)|((with_reducible refine Qe ?_);(refine ldPN hS.ile rfl rfl Zo rfl hcell Xv ?_);refine aM ?_)|(refine aN 8 ?_;clear hS;intro X8 w hS)|(refine aL ?_)|(refine aS ?_;clear hS;intro w hS))
         refine⟨rfl,?_⟩;exact And.intro rfl ⟨p1,Ku,HA1.out,rfl,((hS.sub (.cons_cons _ (.cons _ (.cons _ (.cons _ (kBb _)))))).empty.pick 1 rfl)⟩
       | ok x =>
         simp only[G.Step.then_ok2] at hf;simp only[Yl] at HM;obtain⟨hs1,hx⟩:=hmk _ _ hIi hm1;clear hmk;cases hm2:m1.ite G.fuel x ea eb with
         | none=>rw[hm2] at hf;cases hf
         | some z =>
         obtain⟨m2,r2⟩:=z;have HIt:=yH (λ(J p:PH) (ns:List PH) (w:World) (hX:J.at X 0=some (vPt D)) (hA:MgAt D m1 p) (hS:Sat E J (p::ns) w)=>xite_any X D G.fuel m1 m2 x ea eb r2 hm2 hs1 hx ha hb E J p ns w hX hA hS);rw[hm2] at hf;cases r2 with
         | stop st =>
           have e:m'=m2/\rs=.stop st:=by cases hf;exact⟨rfl,rfl⟩
           obtain⟨rfl,rfl⟩:=e;simp only[Yl] at HIt;clear hf hpre hpre' hm1 hm2 hA hIi hli HF HL HKm HI hs1 hx ha hb;go_wp2_with (first|(go_at_call 63;(with_reducible refine bD (HM.out _ _ (hS.pick 3 rfl)) ?_);clear hS;intro w p1 HA1 hS;replace hS:=Sat.back (m:=p) 3 rfl hS;simp only[zF,zG] at hS)|((with_reducible refine Qe ?_);(refine ldPN hS.ile rfl rfl Zo rfl hcell Xv ?_);refine aM ?_)|(refine aN 8 ?_;clear hS;intro X8 w hS)|(refine aL ?_)|(refine aS ?_;clear hS;intro w hS))
           obtain⟨I8,l8,m8,hS8,b8⟩:=hS.ice;have i81:I8.at X8 1=some (.int .i64 (lo:Int)):=PH.at_le m8 (Qb rfl);have i82:I8.at X8 2=some (.int .i64 (hi2:Int)):=PH.at_le m8 (Qb rfl);have hX8:=PH.at_le l8 hX;have L8:=yH l8;have B8:=yH b8;clear hS l8 m8 b8;have hS:=hS8;clear hS8;refine Kf (λc w'=>c=stopE st/\∃p2,MgAt D m' p2/\Sat E I8 (p2::ms) w') [[],[],[],[],[],[4],[3,4,5],[],[],[8],[3,4,5,6,7,8,9],[1,2,3,4,5,6,7,8,9,10],[1,2,3,4,5,6,7,8,9,10,11],[0,1,2,3,4,5,6,7,8,9,10,11,12],[0,1,2,3,4,5,6,7,8,9,10,11,12,13]] E I8 _
            [λv _=>v=vr,λv _=>v=vPt X,λv _=>v=nv x,λv _=>v=.func (.func 62) #[] #[vPt X5],λv _=>v=.pointer (some ⟨X8,2,none⟩),λv _=>v=nv hi2,λv _=>v=nv ea,λv _=>v=.func (.func 62) #[] #[vPt X5],λv _=>v=.pointer (some ⟨X8,1,none⟩),λv _=>v=nv lo,λv _=>v=nv eb,λ_ _=>False,λ_ _=>True,λ_ _=>True,λ_ _=>True] []
            (λ_ _ _ bs=>bs=PH.one X5 (.cells #[vr] 119)::mr::p1::ms) (by kernel_rfl) (by kernel_rfl) (by decide) hS rfl ?last (λ_ _ _ _ _ _ h=>h) (λ_ _ _ _ _ _ h=>h) ?plain ?step ?hZ ?fin
           case last=>exact bL
           case plain =>
            clear hS;refine⟨⟨⟨⟨⟨⟨⟨⟨⟨⟨⟨⟨⟨⟨⟨trivial,?q0⟩,?q1⟩,?q2⟩,?q3⟩,?q4⟩,?q5⟩,?q6⟩,?q7⟩,?q8⟩,?q9⟩,?q10⟩,?q11⟩,?q12⟩,?q13⟩,?q14⟩
            case q0=>refine .inr ?_;intro s vals J bs w hstop hg hJ hS hG;have hX5:PH.one X5 (.cells #[vr] 119)∈bs:=(by have hG:bs=_:=hG;rw[hG];simp);clear hG;simp only[zI,Given,Facts] at hg;simp only[Qc,Qo,Qd,zI];refine bV ?_;intro K HK;(with_reducible refine atLoad ?_);(refine' wp_ld1 (v:=vr) (hS.own _ hX5) rfl ty_agg119 rfl (Qb rfl) ?_);exact HK.out _ _ ⟨rfl,J,PH.le.refl _,hS,rfl⟩
            case q6=>refine .inr ?_;intro s vals J bs w hstop hg hJ hS hG;have hG:bs=_:=hG;subst hG;have hx5:(Qa w).at X5 0=some vr:=PH.at_le (hS.mle (k:=0) rfl) (Qb rfl);have hxr:NumR (Qa w) vr l:=HN.out.le (hS.mle (k:=1) rfl);refine bZ ?_;intro K HK;go_wp2_with (go_at_call 62;with_reducible refine bC (HGa.out _ hx5 hxr) ?_);exact HK.out _ _ ⟨rfl,J,PH.le.refl _,hS,rfl⟩
            case q10=>refine .inr ?_;intro s vals J bs w hstop hg hJ hS hG;have hG:bs=_:=hG;subst hG;have hx5:(Qa w).at X5 0=some vr:=PH.at_le (hS.mle (k:=0) rfl) (Qb rfl);have hxr:NumR (Qa w) vr l:=HN.out.le (hS.mle (k:=1) rfl);refine bZ ?_;intro K HK;go_wp2_with (go_at_call 62;with_reducible refine bC (HGb.out _ hx5 hxr) ?_);exact HK.out _ _ ⟨rfl,J,PH.le.refl _,hS,rfl⟩
            case q11=>refine .inr ?_;intro s vals J bs w hstop hg hJ hS hG;have hG:bs=_:=hG;subst hG;refine bZ ?_;intro K HK;go_wp2_with (go_at_call 64;(with_reducible refine yI (HIt.out _ _ _ _ (PH.at_le hJ hX8) HA1.out (hS.pick 2 rfl)) ?_);clear hS;rintro e w ⟨rfl,_,_,p2,hA2,hS⟩;have HA2:=yH hA2;clear hA2);exact And.intro rfl ⟨p2,HA2.out,(hS.less hJ).sub (.cons_cons _ (.cons _ (.cons _ (kBb _))))⟩
            all_goals first|(refine .inr ?_;intro s vals J bs w hstop hg hJ hS hG;exfalso;simp only[zH,zI,Given,Facts,and_false,false_and] at hg;done)|(refine .inr ?_;intro s vals J bs w hstop hg hJ hS hG;clear hG;refine bZ ?_;intro K HK;(first|(refine bJ ?_)|(go_wp2_with (fail)));exact bO)
           case step=>trivial
           case hZ =>
            rintro c b w' hd ⟨rfl,p2,hA2,hS'⟩;exact⟨hd,rfl,p2,Ku,hA2,rfl,(((B8.out _ _ hS').drop).empty.pick 1 rfl)⟩
           case fin =>
            intro vals J9 bs w hJ hg hS hG;exact False.elim (by simp only[yB,yC,Nat.reduceAdd,Below_,Facts,zH,zI,kS,kJb] at hg;simp at hg)
         | ok k =>
           have HPre:=yH (hpre' _ _ _ _ hm1 hm2);simp only[Yl] at HIt;clear hf hpre hpre' hm1 hm2 hA hIi hli hs1 hx ha hb;go_wp2_with (first|(go_at_call 63;(with_reducible refine bD (HM.out _ _ (hS.pick 3 rfl)) ?_);clear hS;intro w p1 HA1 hS;replace hS:=Sat.back (m:=p) 3 rfl hS;simp only[zF,zG] at hS)|((with_reducible refine Qe ?_);(refine ldPN hS.ile rfl rfl Zo rfl hcell Xv ?_);refine aM ?_)|(refine aN 8 ?_;clear hS;intro X8 w hS)|(refine aL ?_)|(refine aS ?_;clear hS;intro w hS))
           obtain⟨I8,l8,m8,hS8,b8⟩:=hS.ice;have i81:I8.at X8 1=some (.int .i64 (lo:Int)):=PH.at_le m8 (Qb rfl);have i82:I8.at X8 2=some (.int .i64 (hi2:Int)):=PH.at_le m8 (Qb rfl);have hX8:=PH.at_le l8 hX;have L8:=yH l8;have B8:=yH b8;clear hS l8 m8 b8;have hS:=hS8;clear hS8;refine Kf (λ_ _=>False) [[],[],[],[],[],[4],[3,4,5],[],[],[8],[3,4,5,6,7,8,9],[1,2,3,4,5,6,7,8,9,10],[1,2,3,4,5,6,7,8,9,10,11],[0,1,2,3,4,5,6,7,8,9,10,11,12],[0,1,2,3,4,5,6,7,8,9,10,11,12,13]] E I8 _
            [λv _=>v=vr,λv _=>v=vPt X,λv _=>v=nv x,λv _=>v=.func (.func 62) #[] #[vPt X5],λv _=>v=.pointer (some ⟨X8,2,none⟩),λv _=>v=nv hi2,λv _=>v=nv ea,λv _=>v=.func (.func 62) #[] #[vPt X5],λv _=>v=.pointer (some ⟨X8,1,none⟩),λv _=>v=nv lo,λv _=>v=nv eb,λv _=>v=nv k,λ_ _=>True,λ_ _=>True,λ_ _=>True] [11,12,13,14]
            (ldG D X5 vr mr p1 m2 k l ms) (by kernel_rfl) (by kernel_rfl) (by decide) hS rfl ?last ldG_st (λ_ _ _ _ _ _ h=>h) ?plain ?step ?hZ ?fin
           case last=>exact bL
           case hZ=>exact λ_ _ _ _ h=>h.elim
           case plain =>
            clear hS;refine⟨⟨⟨⟨⟨⟨⟨⟨⟨⟨⟨⟨⟨⟨⟨trivial,?r0⟩,?r1⟩,?r2⟩,?r3⟩,?r4⟩,?r5⟩,?r6⟩,?r7⟩,?r8⟩,?r9⟩,?r10⟩,.inl rfl⟩,.inl rfl⟩,.inl rfl⟩,.inl rfl⟩
            case r0=>refine .inr ?_;intro s vals J bs w hstop hg hJ hS hG;have hX5:=ldG_x5 (jFb hstop (by decide)) hG;clear hG;simp only[zI,Given,Facts] at hg;simp only[Qc,Qo,Qd,zI];refine bV ?_;intro K HK;(with_reducible refine atLoad ?_);(refine' wp_ld1 (v:=vr) (hS.own _ hX5) rfl ty_agg119 rfl (Qb rfl) ?_);exact HK.out _ _ ⟨rfl,J,PH.le.refl _,hS,rfl⟩
            case r6=>refine .inr ?_;intro s vals J bs w hstop hg hJ hS hG;have h0:s<=0:=hstop;obtain rfl:s=0:=kQa.1 h0;have hG:bs=_:=hG;subst hG;have hx5:(Qa w).at X5 0=some vr:=PH.at_le (hS.mle (k:=0) rfl) (Qb rfl);have hxr:NumR (Qa w) vr l:=HN.out.le (hS.mle (k:=1) rfl);refine bZ ?_;intro K HK;go_wp2_with (go_at_call 62;with_reducible refine bC (HGa.out _ hx5 hxr) ?_);exact HK.out _ _ ⟨rfl,J,PH.le.refl _,hS,rfl⟩
            case r10=>refine .inr ?_;intro s vals J bs w hstop hg hJ hS hG;have h0:s<=0:=hstop;obtain rfl:s=0:=kQa.1 h0;have hG:bs=_:=hG;subst hG;have hx5:(Qa w).at X5 0=some vr:=PH.at_le (hS.mle (k:=0) rfl) (Qb rfl);have hxr:NumR (Qa w) vr l:=HN.out.le (hS.mle (k:=1) rfl);refine bZ ?_;intro K HK;go_wp2_with (go_at_call 62;with_reducible refine bC (HGb.out _ hx5 hxr) ?_);exact HK.out _ _ ⟨rfl,J,PH.le.refl _,hS,rfl⟩
            all_goals (refine .inr ?_;intro s vals J bs w hstop hg hJ hS hG;clear hG;refine bZ ?_;intro K HK;(first|(refine bJ ?_)|(go_wp2_with (fail)));exact bO)
           case step =>
            clear hS;refine⟨⟨⟨⟨trivial,?s0⟩,?s1⟩,?s2⟩,?s3⟩
            case s0 =>
             intro vals J bs w hg hJ hS hG;have hG:bs=_:=hG;subst hG;refine bZ ?_;intro K HK;go_wp2_with (go_at_call 64;(with_reducible refine yI (HIt.out _ _ _ _ (PH.at_le hJ hX8) HA1.out (hS.pick 2 rfl)) ?_);clear hS;rintro e w ⟨rfl,_,_,p2,hA2,hS⟩;have HA2:=yH hA2;clear hA2)
             replace hS:=Sat.back (m:=p1) 2 rfl hS;simp only[zF,zG] at hS;exact HK.out _ _ ⟨rfl,J,_,PH.le.refl _,hS,rfl,p2,HA2.out,rfl⟩
            case s1 =>
             intro vals J bs w hg hJ hS hG;obtain⟨p2,hA2,rfl⟩:=hG;have HA2:=yH hA2;clear hA2;refine bZ ?_;intro K HK;refine wp_bsl (cs := #[nv k]) (e:=102) hS (λw0=>by go_simp) λXS w' hS'=>?_
             exact HK.out _ _ ⟨rfl,J,_,PH.le.refl _,hS',trivial,p2,XS,HA2.out,rfl,rfl⟩
            case s2 =>
             intro vals J bs w hg hJ hS hG;obtain⟨p2,XS,hA2,e12,rfl⟩:=hG;have HA2:=yH hA2;clear hA2;simp only[zH,zI,Given,Facts] at hg;simp only[Qc,Qo,Qi,Qd,zH,zI,zA,zB,zK,jEb,Act.put,zE,zF,zG,hg,e12];refine bV ?_;intro K HK;refine wp_apP (p:=PH.one XS (.cells #[nv k] 102)) (m:=mr) (v:=vr) (n:=l.length) (xs:=l.flatMap ivC) (news:=[nv k]) hS 2 rfl (.inr (.head _)) rfl Tryz.underlying119 edge_info rfl (by decide) rfl HO.out rfl rfl (Cells.one _ _ _ _) rfl (by unfold maxLen;omega) (by omega) λv' m'' w' hO' hS'=>?_
             exact HK.out _ _ ⟨rfl,J,_,PH.le.refl _,hS',trivial,p2,XS,m'',HA2.out,hO',rfl⟩
            case s3 =>
             intro vals J bs w hg hJ hS hG;obtain⟨p2,XS,mr',hA2,g0,rfl⟩:=hG;obtain⟨A13,c13,e13,_⟩:=OwnP.shape g0;have HA2:=yH hA2;clear hA2;simp only[zH,zI,Given,Facts] at hg;simp only[Qc,Qo,Qi,Qd,zH,zI,zA,zB,zK,jEb,Act.put,zE,zF,zG,hg,e13];refine bV ?_;intro K HK;refine wp_st1 hS 1 rfl rfl rfl rfl ty_sz119 rfl rfl (by simp) λw' hS'=>?_
             refine HK.out _ _ ⟨rfl,J,_,PH.le.refl _,hS',trivial,p2,XS,mr',HA2.out,g0,?_⟩;rw[show upd vals 14 _ 13=vals 13 from rfl,e13];rfl
           case fin =>
            intro vals J9 bs w hJ hg hS hG;obtain⟨p2,XS,mr',hA2,g0,rfl⟩:=hG;have HA2:=yH hA2;have g0:=yH g0;have hS:=(hS.less hJ).drop;clear hJ hA2 HIt HM;refine bH ?_;clear hg;go_wp2_with (fail)
            exact⟨⟨i+1,m2,l++[k],vals 13,mr',p2,by omega,by go_num,HPre.out,HA2.out,by rw[yG,jNb];exact g0.out,(B8.out _ _ hS).drop⟩,by simp[intOf];omega⟩
   . obtain rfl:i=N:=by omega
     rw[hpre] at hf;simp only[G.Step.then_ok2] at hf;have e:m'=mi/\rs=.ok (G.flipIf (l.getD i 0) (root%2==1)):=by cases hf;exact⟨rfl,rfl⟩
     obtain⟨rfl,rfl⟩:=e;have HGr:=yH (λ(w:World) (h5:(Qa w).at X5 0=some vr) (hO:NumR (Qa w) vr l)=>lget_any h5 hO root (by have:=HN0.out;omega) (by omega) hli);rw[HN0.out] at HGr;obtain⟨ey,hey⟩:∃y,l.getD i 0=y:=⟨_,rfl⟩;rw[hey] at HGr;have HEy:=yH hey;clear hey;have HN:=yH hOr;have HA:=yH hA;clear hf hpre hIi hli HF HL HKm HI hO hOr HC hA;go_wp2_with (first|(go_at_call 62;with_reducible refine bC (HGr.out _ (PH.at_le (hS.mle (k:=0) rfl) (Qb rfl)) (HN.out.le (hS.mle (k:=1) rfl))) ?_)|(refine aL ?_))
     go_ret;exact⟨by rw[HEy.out];rfl,p,Ku,HA.out,rfl,(hS.drop.drop.empty.pick 1 rfl)⟩
end
section
open Go.RowKit
def IntRo(I:PH)(v:Value)(l:List Int):Prop:=∃A c,v=.slice A l.length c/\(0<l.length->∃X off,A=some ⟨X,off,none⟩/\∀(i:Nat) x,l[i]?=some x->I.at X (off+i)=some (.int .i64 x))
theorem IntRo.le{I J:PH}{v:Value}{l:List Int}(h:IntRo I v l)(hJ:I.le J):IntRo J v l:=by
 obtain⟨A,c,rfl,h2⟩:=h;refine⟨A,c,rfl,λhn=>?_⟩;obtain⟨X,o,e,h3⟩:=h2 hn;exact⟨X,o,e,λi x hx=>PH.at_le hJ (h3 i x hx)⟩
end
namespace G
def leadsB(e:Int)(n:Nat):Bool:=decide (0<=e)&&decide (e/2<=(n:Int))
def rowB(r:Rw3)(i:Nat):Bool:=!(decide (r.v<0)) && !(decide (r.v≥64))&&leadsB r.lo i&&leadsB r.hi i
def rightB(rows:List Rw3)(roots:List Int):Bool:=(rows.zipIdx.all λq=>rowB q.1 q.2)&&(roots.all λe=>leadsB e rows.length)&&decide (rows.length<=4096)
theorem rightB_row{rows:List Rw3}{roots:List Int}{i:Nat}{r:Rw3}(h:rows[i]?=some r)(hb:rowB r i=false):rightB rows roots=false:=by
 have:(rows.zipIdx.all λq=>rowB q.1 q.2)=false:=by
  rw[List.all_eq_false];exact⟨(r,i),List.mem_zipIdx_iff_getElem?.2 h,by simp[hb]⟩
 unfold rightB;rw[this];rfl
theorem rightB_root{rows:List Rw3}{roots:List Int}{i:Nat}{e:Int}(h:roots[i]?=some e)(hb:leadsB e rows.length=false):rightB rows roots=false:=by
 have:(roots.all λe=>leadsB e rows.length)=false:=by
  rw[List.all_eq_false];exact⟨e,jCb h,by simp[hb]⟩
 unfold rightB;rw[this];simp
theorem rightB_end{rows:List Rw3}{roots:List Int}(h1:∀i r,rows[i]?=some r->rowB r i=true)(h2:∀(i:Nat) e,roots[i]?=some e->leadsB e rows.length=true):rightB rows roots=decide (rows.length<=4096):=by
 have a1:(rows.zipIdx.all λq=>rowB q.1 q.2)=true:=by
  rw[jTb];rintro⟨r,i⟩ hm;exact h1 i r (List.mem_zipIdx_iff_getElem?.1 hm)
 have a2:(roots.all λe=>leadsB e rows.length)=true:=by
  rw[jTb];intro e hm;obtain⟨i,hi⟩:=kYa hm;exact h2 i e hi
 unfold rightB;rw[a1,a2];rfl
end G
section
open Go.RowKit
theorem dleads_any{w:World}(e:Int)(n:Nat)(h1 : -9223372036854775808<=e)(h2:e<9223372036854775808) :
  Calls Tryz.prog 75 #[.int .i64 e,.int .i64 (n:Int)] w λe' w'=>e'=.returned (.bool (G.leadsB e n))/\w=w':=by
 unfold G.leadsB;by_cases h0:0<=e
 . have e1:decide (0<=e)=true:=kP h0
   have e2:e.tdiv 2=e/2:=Int.tdiv_eq_ediv_of_nonneg h0;have e3:wrap64 (e.tdiv 2)=e/2:=by rw[e2];exact IntWalk.wrap64_in _ (by omega)
   rw[e1];go_enter Tryz.func75,Tryz.ntmps75;go_wp2_with fail
   go_ret;exact⟨rfl,rfl⟩
 . have e1:decide (0<=e)=false:=jVa h0
   rw[e1];go_enter Tryz.func75,Tryz.ntmps75;go_wp2_with fail
   go_ret;exact⟨rfl,rfl⟩
def RowFit(r:G.Rw3):Prop:=(-9223372036854775808<=r.v/\r.v<9223372036854775808)/\(-9223372036854775808<=r.lo/\r.lo<9223372036854775808)/\(-9223372036854775808<=r.hi/\r.hi<9223372036854775808)
theorem Row3R.shape2{J:PH}{v:Value}{l:List G.Rw3}(h:Row3R J v l):∃A c,v=.slice A l.length c/\(0<l.length->∃X o,A=some ⟨X,o,none⟩/\∀(i:Nat) x,l[i]?=some x->Cells J X (o+i*3) (rowC x)):=by
 obtain⟨A,c,h1,_,h3⟩:=h.shape;exact⟨A,c,h1,h3⟩
theorem IntR.shape2{J:PH}{v:Value}{l:List Int}(h:IntR J v l):∃A c,v=.slice A l.length c/\(0<l.length->∃X,A=some ⟨X,0,none⟩/\∀(i:Nat) x,l[i]?=some x->J.at X i=some (.int .i64 x)):=by
 obtain⟨⟨A,c,rfl⟩,h2⟩:=h;refine⟨A,c,rfl,λhn=>?_⟩;obtain⟨X,c',e,h3⟩:=h2 hn;injection e with e1 e2 e3
 exact⟨X,e1,h3⟩
def Row3o(J:PH)(v:Value)(l:List G.Rw3):Prop:=∃A c,v=.slice A l.length c/\(0<l.length->∃X o,A=some ⟨X,o,none⟩/\∀(i:Nat) x,l[i]?=some x->Cells J X (o+i*3) (rowC x))
theorem Row3R.o{J:PH}{v:Value}{l:List G.Rw3}(h:Row3R J v l):Row3o J v l:=h.shape2
theorem Row3o.le{I J:PH}{v:Value}{l:List G.Rw3}(h:Row3o I v l)(hJ:I.le J):Row3o J v l:=by
 obtain⟨A,c,rfl,h2⟩:=h;refine⟨A,c,rfl,λhn=>?_⟩;obtain⟨X,o,e,h3⟩:=h2 hn;exact⟨X,o,e,λi x hx=>(h3 i x hx).le hJ⟩
theorem IntR.ro{I:PH}{v:Value}{l:List Int}(h:IntR I v l):IntRo I v l:=by
 obtain⟨A,c,rfl,h2⟩:=h.shape2;refine⟨A,c,rfl,λhn=>?_⟩;obtain⟨X,e,h3⟩:=h2 hn;exact⟨X,0,e,λi x hx=>by rw[jLb];exact h3 i x hx⟩
theorem dright_any{W:World}{vl vr:Value}{rows:List G.Rw3}{roots:List Int}(hl:Row3o (Qa W) vl rows)(hr:IntRo (Qa W) vr roots)(hn:rows.length<1152921504606846976)(hm:roots.length<1152921504606846976)(hf:∀r∈rows,RowFit r)(hg:∀e∈roots,-9223372036854775808<=e/\e<9223372036854775808) :
  Calls Tryz.prog 30 #[vl,vr] W λe w'=>e=.returned (.bool (G.rightB rows roots))/\Below W.heap.size W w':=by
 obtain⟨A,c,rfl,hcl⟩:=hl;obtain⟨B,d,rfl,hcr⟩:=hr;have HCl:=yH hcl;have HCr:=yH hcr;have HF:=yH hf;have HG:=yH hg;have hS:=Sat.start W;clear hcl hcr hf hg;generalize hN:rows.length=N at *
 generalize hM:roots.length=M at *
 have HNn:=yH hN;have HMm:=yH hM;clear hN hM;go_enter Tryz.func30,Tryz.ntmps30;go_wp2_with fail
 go_loopw [11] (λv11 wr=>∃i:Nat,i<=N/\v11=.int .i64 (i:Int)/\(∀j r,j<i->rows[j]?=some r->G.rowB r j=true)/\Sat W (Qa W) [] wr) (λv11 _=>(N-intOf v11).toNat)
 case atStart=>exact⟨0,jC _,rfl,λj r h=>by omega,hS⟩
 case round =>
  clear hS;obtain⟨i,hi,rfl,hok,hS⟩:=hrel;by_cases hlt:i<N
  . obtain⟨r,hr⟩:∃r,rows[i]?=some r:=⟨_,yA (by rw[HNn.out];exact hlt)⟩
    obtain⟨Y,oY,hA,hcell⟩:=HCl.out (by omega);subst hA;have hcell:=hcell i r hr;have iN:(i:Int)<(N:Int):=by omega
    obtain⟨⟨v1,v2⟩,⟨l1,l2⟩,h1,h2⟩:=HF.out r (jCb hr);have HLa:=yH (λw:World=>dleads_any (w:=w) r.lo i l1 l2);have HLb:=yH (λw:World=>dleads_any (w:=w) r.hi i h1 h2);have hrow:G.rowB r i=(!(decide (r.v<0)) && !(decide (r.v≥64))&&G.leadsB r.lo i&&G.leadsB r.hi i):=rfl;have HOk:=yH (λ(hb:G.rowB r i=true) (j:Nat) (x:G.Rw3) (hj:j<i+1) (hx:rows[j]?=some x)=>show G.rowB x j=true by
     by_cases e:j=i
     . subst e;rw[hr] at hx;cases hx;exact hb
     . exact hok j x (by omega) hx)
    have HNo:=yH (λ(hb:G.rowB r i=false)=>G.rightB_row (roots:=roots) hr hb);clear hok hr h1 h2 l1 l2 HCl HF;generalize G.rowB r i=rb at *
    generalize G.leadsB r.lo i=la at *
    generalize G.leadsB r.hi i=lb at *
    obtain⟨v,lo,hi'⟩:=r;simp only at *
    by_cases c1:v<0
    . have HNo2:=yH (HNo.out (by rw[hrow,kP c1];rfl))
      clear HNo HOk hrow;go_wp2_with (first|((with_reducible refine Qe ?_);(refine ldPN hS.ile rfl rfl Zo rfl hcell Xv ?_);refine aM ?_)|(refine aN 6 ?_;clear hS;intro X6 w hS)|(refine aG ?_)|(refine aL ?_)|(refine aS ?_;clear hS;intro w hS))
      go_ret;exact⟨by rw[HNo2.out];rfl,hS.end_ (PH.le.refl _)⟩
    . by_cases c2:v≥64
      . have HNo2:=yH (HNo.out (by rw[hrow,kP c2];simp))
        clear HNo HOk hrow;go_wp2_with (first|((with_reducible refine Qe ?_);(refine ldPN hS.ile rfl rfl Zo rfl hcell Xv ?_);refine aM ?_)|(refine aN 6 ?_;clear hS;intro X6 w hS)|(refine aG ?_)|(refine aL ?_)|(refine aS ?_;clear hS;intro w hS))
        go_ret;exact⟨by rw[HNo2.out];rfl,hS.end_ (PH.le.refl _)⟩
      . rw[jVa c1,jVa c2] at hrow
        cases la with
        | false =>
          have HNo2:=yH (HNo.out (by rw[hrow];rfl));clear HNo HOk hrow;go_wp2_with (first|(go_at_call 75;  (with_reducible refine bC (HLa.out _) ?_) )|((with_reducible refine Qe ?_);(refine ldPN hS.ile rfl rfl Zo rfl hcell Xv ?_);refine aM ?_)|(refine aN 6 ?_;clear hS;intro X6 w hS)|(refine aG ?_)|(refine aL ?_)|(refine aS ?_;clear hS;intro w hS))
          go_ret;exact⟨by rw[HNo2.out];rfl,hS.end_ (PH.le.refl _)⟩
        | true =>
          cases lb with
          | false =>
            have HNo2:=yH (HNo.out (by rw[hrow];rfl));clear HNo HOk hrow;go_wp2_with (first|(go_at_call 75;first|(with_reducible refine bC (HLa.out _) ?_)|(with_reducible refine bC (HLb.out _) ?_))|((with_reducible refine Qe ?_);(refine ldPN hS.ile rfl rfl Zo rfl hcell Xv ?_);refine aM ?_)|(refine aN 6 ?_;clear hS;intro X6 w hS)|(refine aG ?_)|(refine aL ?_)|(refine aS ?_;clear hS;intro w hS))
            go_ret;exact⟨by rw[HNo2.out];rfl,hS.end_ (PH.le.refl _)⟩
          | true =>
            have HOk2:=yH (HOk.out (by rw[hrow];rfl));clear HNo HOk hrow;go_wp2_with (first|(go_at_call 75;first|(with_reducible refine bC (HLa.out _) ?_)|(with_reducible refine bC (HLb.out _) ?_))|((with_reducible refine Qe ?_);(refine ldPN hS.ile rfl rfl Zo rfl hcell Xv ?_);refine aM ?_)|(refine aN 6 ?_;clear hS;intro X6 w hS)|(refine aG ?_)|(refine aL ?_)|(refine aS ?_;clear hS;intro w hS))
            exact⟨⟨i+1,by omega,by go_num,HOk2.out,hS.drop⟩,by simp[intOf];omega⟩
  . obtain rfl:i=N:=by omega
    have HRows:=yH (λj r (h:rows[j]?=some r)=>hok j r (by have:=(yE.1 h).1;rw[HNn.out] at this;exact this) h);clear hok HCl HF;go_wp2_with fail
    go_loopw [41] (λv41 wr=>∃j:Nat,j<=M/\v41=.int .i64 (j:Int)/\(∀k e,k<j->roots[k]?=some e->G.leadsB e i=true)/\Sat W (Qa W) [] wr) (λv41 _=>(M-intOf v41).toNat)
    case atStart=>exact⟨0,jC _,rfl,λj r h=>by omega,hS⟩
    case round =>
     clear hS;obtain⟨j,hj,rfl,hok,hS⟩:=hrel;by_cases hlt2:j<M
     . obtain⟨e,he⟩:∃e,roots[j]?=some e:=⟨_,yA (by rw[HMm.out];exact hlt2)⟩
       obtain⟨Z,oZ,hB,hcell⟩:=HCr.out (by omega);subst hB;have hcell:=hcell j e he;have jM:(j:Int)<(M:Int):=by omega
       obtain⟨e1,e2⟩:=HG.out e (jCb he);have HLa:=yH (λw:World=>dleads_any (w:=w) e i e1 e2);have HOk:=yH (λ(hb:G.leadsB e i=true) (k:Nat) (x:Int) (hk:k<j+1) (hx:roots[k]?=some x)=>show G.leadsB x i=true by
        by_cases h:k=j
        . subst h;rw[he] at hx;cases hx;exact hb
        . exact hok k x (by omega) hx)
       have HNo:=yH (λ(hb:G.leadsB e i=false)=>G.rightB_root (rows:=rows) he (by rw[HNn.out];exact hb));clear hok he HCr HG e1 e2;generalize G.leadsB e i=la at *
       cases la with
       | false =>
         have HNo2:=yH (HNo.out rfl);clear HNo HOk;go_wp2_with (first|(go_at_call 75;with_reducible refine bC (HLa.out _) ?_)|(refine aL ?_))
         go_ret;exact⟨by rw[HNo2.out];rfl,hS.end_ (PH.le.refl _)⟩
       | true =>
         have HOk2:=yH (HOk.out rfl);clear HNo HOk;go_wp2_with (first|(go_at_call 75;with_reducible refine bC (HLa.out _) ?_)|(refine aL ?_))
         exact⟨⟨j+1,by omega,by go_num,HOk2.out,hS⟩,by simp[intOf];omega⟩
     . obtain rfl:j=M:=by omega
       have HE:=yH (G.rightB_end HRows.out (λk e h=>by rw[HNn.out];exact hok k e (by have:=(yE.1 h).1;rw[HMm.out] at this;exact this) h));rw[HNn.out] at HE;clear hok HRows HCr HG;go_wp2_with fail
       go_ret;have hd:decide ((i:Int)<=4096)=decide (i<=4096):=decide_eq_decide.2 (by omega);exact⟨by rw[HE.out,<- hd];rfl,hS.end_ (PH.le.refl _)⟩
end
namespace G
def wideB(n:Nat)(rows:List Rw3):Bool:=rows.any λr=>decide (r.v≥(n:Int))
def Mg.loadL(rows:List Rw3):List Int->Mg->List Nat->Option (Mg×List Nat×Nat)
 | [],m,done=>some (m,done,0)
 | root::l,m,done=>(m.do_ (load1 rows root.toNat)).bind λx=>if x.2.2=0 then Mg.loadL rows l x.1 (done++[x.2.1]) else (x.1.drop (done.map λ(h:Nat)=>(h:Int))).bind λy=>some (y.1,[],x.2.2)
def Mg.loadM(m:Mg)(rows:List Rw3)(roots:List Int):Option (Mg×List Nat×Nat):=if rightB rows roots then (if wideB m.s.vars.length rows then some (m,[],9) else Mg.loadL rows roots m []) else some (m,[],3)
structure LoadsOk (rows:List Rw3) (roots:List Int) (Gd:Mg->Nat->Prop):Prop where
 step:∀m k root m' h,k<roots.length->Gd m k->root∈roots->m.do_ (load1 rows root.toNat)=some (m',h,0)->Gd m' (k+1)
 hs:∀m k root m' h er,k<roots.length->Gd m k->root∈roots->m.do_ (load1 rows root.toNat)=some (m',h,er)->∀q∈m'.hs,q.2<4611686018427387904
theorem wideB_row{n:Nat}{rows:List Rw3}{i:Nat}{r:Rw3}(h:rows[i]?=some r)(hb:r.v≥(n:Int)):wideB n rows=true:=kX.2 ⟨r,jCb h,kP hb⟩
theorem wideB_end{n:Nat}{rows:List Rw3}(h:∀(i:Nat) r,rows[i]?=some r->¬r.v≥(n:Int)):wideB n rows=false:=by
 unfold wideB;rw[List.any_eq_false];intro r hm;obtain⟨i,hi⟩:=kYa hm
 simpa using h i r hi
theorem rightB_roots{rows:List Rw3}{roots:List Int}(h:rightB rows roots=true):(∀e∈roots,0<=e/\e/2<=(rows.length:Int))/\rows.length<=4096:=by
 unfold rightB at h;simp only[jI,jPa,jTb] at h;refine⟨λe he=>?_,h.2⟩
 have:=h.1.2 e he;unfold leadsB at this
 simpa using this
end G
section
open Go.RowKit
theorem mdo_pureI{fid D:Nat}{cs:Array Value}{Inv:G.Mg->Prop}{F:G.Mg->G.Step Nat}{bs:List PH}{E w:World}{I p:PH}(hop:∀J:PH,I.le J->(∀b∈bs,b.le J)->OpP fid cs D J Inv F)(hK:KeepsM Inv)(hD:DoOk Inv F)
  {ms:List PH}{m m':G.Mg}{h er:Nat}(hI:Inv m)(hm:m.do_ F=some (m',h,er))(hA:MgAt D m p)(hS:Sat E I (bs++p::ms) w) :
  Calls Tryz.prog 60 #[vPt D,.func (.func fid) #[] cs] w λe w'=>e=.returned (.tuple #[nv h,nv er])/\∃p',MgAt D m' p'/\Sat E I (bs++p'::ms) w':=by
 obtain⟨J,l1,l2,h2,back⟩:=Sat.iceL hS;refine (mdo_any (hop J l1 l2) hK hD.step hD.lt hD.ne (PH.le.refl J) hI hm hA rfl ((h2.empty).perm (List.Perm.swap _ _ _))).mono ?_;rintro e w' ⟨rfl,p',h3,h4⟩;exact⟨rfl,p',h3,back _ _ h4⟩
theorem NumR.intR{I:PH}{v:Value}{l:List Nat}(h:NumR I v l):IntR I v (l.map λ(h:Nat)=>(h:Int)):=by
 obtain⟨⟨A,c,h1⟩,h2⟩:=h;refine⟨⟨A,c,by rw[jHb];exact h1⟩,λhn=>?_⟩;rw[jHb] at hn;obtain⟨X,c',e,h3⟩:=h2 hn;refine⟨X,c',by rw[jHb];exact e,λi x hx=>?_⟩;rw[jO] at hx;cases hy:l[i]? with
 | none=>rw[hy] at hx;cases hx
 | some y=>rw[hy] at hx;cases hx;exact h3 i y hy
def LoadInv(rows:List G.Rw3)(roots:List Int)(Gd:G.Mg->Nat->Prop):Prop:=∀m k root,k<roots.length->Gd m k->root∈roots->∃Inv:G.Mg->Prop,Inv m/\KeepsM Inv/\LoadOk Inv rows/\DoOk Inv (G.load1 rows root.toNat)
theorem ldrop_any{E w:World}{I p1 q4 q5 mr:PH}{ms:List PH}{D:Nat}{m2 m3:G.Mg}{done:List Nat}{e3:Nat}{v:Value}(hO:OwnP mr 3 1 v done.length (done.flatMap ivC))(hlen:done.length<=1000000)(hb:∀q∈m2.hs,q.2<4611686018427387904)(hm:m2.drop (done.map λ(h:Nat)=>(h:Int))=some (m3,e3))(hA:MgAt D m2 p1)(hS:Sat E I (q4::q5::p1::mr::ms) w) :
  Calls Tryz.prog 65 #[vPt D,v] w λe w'=>e=.returned (nv e3)/\∃p',MgAt D m3 p'/\Sat E I (mr::p'::q4::q5::ms) w':=by
 obtain⟨J,l1,l2,h2,back⟩:=(hS.pick 3 rfl).ice;refine (mdrop_any ((OwnP.num hO).intR.le l2) (by rw[jHb];exact hlen) hb hm hA (h2.pick 2 rfl)).mono ?_;rintro e w' ⟨rfl,p',h3,h4⟩;exact⟨rfl,p',h3,back _ _ h4⟩
def LoadR(out:List Nat)(er:Nat)(e:Ending)(mr:PH):Prop:=∃v,e=.returned (.tuple #[v,nv er])/\OwnP mr 3 1 v out.length (out.flatMap ivC)
theorem dload_any{D:Nat}{rows:List G.Rw3}{roots:List Int}{Gd:G.Mg->Nat->Prop}(hG:G.LoadsOk rows roots Gd)(hGi:LoadInv rows roots Gd)(hn:rows.length<1152921504606846976)(hmr:roots.length<=1000000)(hf:∀r∈rows,RowFit r)(hg:∀e∈roots,-9223372036854775808<=e/\e<9223372036854775808)
  {E w:World}{I p:PH}{ms:List PH}{m m':G.Mg}{out:List Nat}{er:Nat}{vl vr:Value}(hvl:Row3R I vl rows)(hvr:IntR I vr roots)(hm:m.loadM rows roots=some (m',out,er))(h0:Gd m 0)(hA:MgAt D m p)(hS:Sat E I (p::ms) w) :
  Calls Tryz.prog 22 #[vPt D,vl,vr] w λe w'=>∃p' mr,LoadR out er e mr/\MgAt D m' p'/\Sat E I (p'::mr::ms) w':=by
 have hmf:∀(fn:Fn) (first cap:Array Value) (w:World),(Instr.makeFunc fn first cap).run Tryz.prog w=.ok (.func fn first cap) w:=λ_ _ _ _=>rfl
 have HRt:=yH (λ(w:World) (h:I.le (Qa w))=>dright_any (hvl.le h).o (hvr.le h).ro hn (by omega) hf hg);have HVl:=yH hvl;obtain⟨A,c,rfl,hcl⟩:=hvl.shape2;obtain⟨B,d,rfl,hcr⟩:=hvr.shape2;have HCl:=yH hcl;have HCr:=yH hcr;have HA:=yH hA;have H0:=yH h0;have HG:=yH hG;have HGi:=yH hGi;clear hvl hvr hcl hcr hf hg hA h0 hG hGi;unfold G.Mg.loadM at hm;cases hr:G.rightB rows roots with
 | false =>
   rw[hr] at hm HRt;simp only[jFa,jOb,jEa,jIa] at hm;obtain⟨rfl,rfl,rfl⟩:=hm;go_enter Tryz.func22,Tryz.ntmps22;go_wp2_with (first|(go_at_call 30;(with_reducible refine bB hS (HRt.out _ hS.ile) ?_);clear hS;intro w2 hS)|(refine aN 4 ?_;clear hS;intro X4 w hS)|(refine aL ?_))
   go_ret2;exact⟨p,Ku,⟨_,rfl,OwnP.nil _ _⟩,HA.out,hS.drop.empty.pick 1 rfl⟩
 | true =>
   obtain⟨hroots,hrl⟩:=G.rightB_roots hr;rw[hr] at HRt hm;simp only[jEb] at hm;have HRo:=yH hroots;clear hroots hr;generalize hN:rows.length=N at *
   generalize hM:roots.length=M at *
   have HNn:=yH hN;have HMm:=yH hM;have HM:=yH hm;clear hN hM hm;go_enter Tryz.func22,Tryz.ntmps22;go_wp2_with (first|(go_at_call 30;(with_reducible refine bB hS (HRt.out _ hS.ile) ?_);clear hS;intro w2 hS)|(refine aN 4 ?_;clear hS;intro X4 w hS)|(refine aL ?_))
   go_loopw [25] (λv25 wr=>∃i:Nat,i<=N/\v25=.int .i64 (i:Int)/\(∀(j:Nat) r,j<i->rows[j]?=some r->¬r.v≥(m.s.vars.length:Int))/\Sat E I (PH.one X4 (.cells #[.slice A N c] 22)::p::ms) wr) (λv25 _=>(N-intOf v25).toNat)
   case atStart=>exact⟨0,jC _,rfl,λj r h=>by omega,hS⟩
   case round =>
    clear hS;obtain⟨i,hi,rfl,hok,hS⟩:=hrel;by_cases hlt:i<N
    . obtain⟨r,hr⟩:∃r,rows[i]?=some r:=⟨_,yA (by rw[HNn.out];exact hlt)⟩
      obtain⟨Y,oY,hY,hcell⟩:=HCl.out (by omega);subst hY;have hcell:=hcell i r hr;have iN:(i:Int)<(N:Int):=by omega
      have HOk:=yH (λ(hb:¬r.v≥(m.s.vars.length:Int)) (j:Nat) (x:G.Rw3) (hj:j<i+1) (hx:rows[j]?=some x)=>show ¬x.v≥(m.s.vars.length:Int) by
       by_cases e:j=i
       . subst e;rw[hr] at hx;cases hx;exact hb
       . exact hok j x (by omega) hx)
      have HNo:=yH (λ(hb:r.v≥(m.s.vars.length:Int))=>G.wideB_row hr hb);have HVs:=yH (λ(w:World) (hM:MgR (Qa w) D m)=>mVars_any hM);clear hok hr HCl HCr HRt;obtain⟨rv,lo,hi2⟩:=r
      dsimp only at HOk HNo
      generalize hVn:m.s.vars.length=vn at *
      have HVn:=yH hVn;clear hVn;go_wp2_with (first|((with_reducible refine Qe ?_);(refine ldPN hS.ile rfl rfl Zo rfl hcell Xv ?_);refine aM ?_)|(refine aN 9 ?_;clear hS;intro X9 w hS)|(refine aS ?_;clear hS;intro w hS))
      obtain⟨I9,l9,m9,hS9,b9⟩:=hS.ice;have i90:I9.at X9 0=some (.int .i64 rv):=PH.at_le m9 (Qb rfl);have B9:=yH b9;have L9:=yH l9;clear hS l9 m9 b9;refine Kf (λ_ _=>False) [[],[0],[],[2],[0,1,2,3]] E I9 _
       [λv _=>v=.pointer (some ⟨X9,0,none⟩),λv _=>v=.int .i64 rv,λv _=>v=vPt D,λv _=>v=nv vn,λv _=>v=.bool (decide (rv≥(vn:Int)))] []
       (λ_ _ _ ns=>ns=PH.one X4 (.cells #[.slice (some ⟨Y,oY,none⟩) N c] 22)::p::ms) (by kernel_rfl) (by kernel_rfl) (by decide) hS9 rfl ?last (λ_ _ _ _ _ _ h=>h) (λ_ _ _ _ _ _ h=>h) ?plain ?step ?hZ ?fin
      case last=>exact bL
      case plain=>(repeat' (first|exact trivial|apply And.intro)) <;>  (refine .inr ?_;intro s vals J bs w hstop hg hJ hS hG;have hG:bs=_:=hG;subst hG;refine bZ ?_;intro K HK;(first|(refine bJ ?_)|(go_wp2_with (first|(go_at_call 59;with_reducible refine bC (HVs.out _ (HA.out.read.le (hS.mle (k:=1) rfl))) ?_))));exact bO)
      case step=>trivial
      case hZ=>exact λ_ _ _ _ h=>h.elim
      case fin =>
       intro vals J9 bs w hJ hg hS hG;have hG:bs=_:=hG;subst hG;have hS:=B9.out _ _ (hS.less hJ);clear hJ hS9;refine bH ?_;clear hg;by_cases hv:rv≥(vn:Int)
       . have hm:=HM.out
         rw[HNo.out (by omega),jAb rfl] at hm;simp only[jEa,jIa] at hm;obtain⟨rfl,rfl,rfl⟩:=hm;have d1:decide (rv≥(vn:Int))=true:=kP hv;have d2:decide ((vn:Int)<=rv)=true:=kP hv;have d3:(vn:Int)<=rv:=hv;clear hv HNo HOk;go_wp2_with fail
         go_ret2;exact⟨p,Ku,⟨_,rfl,OwnP.nil _ _⟩,HA.out,hS.drop.drop.empty.pick 1 rfl⟩
       . have HOk2:=yH (HOk.out (by omega))
         have d1:decide (rv≥(vn:Int))=false:=jVa hv;have d2:decide ((vn:Int)<=rv)=false:=jVa hv;have d3:¬(vn:Int)<=rv:=hv;clear hv HNo HOk;go_wp2_with (fail)
         exact⟨⟨i+1,by omega,by go_num,(λj r h1 h2=>by have:=HOk2.out j r h1 h2;omega),hS.drop⟩,by simp[intOf];omega⟩
    . obtain rfl:i=N:=by omega
      have hw:G.wideB m.s.vars.length rows=false:=G.wideB_end (λj r h=>hok j r (by have:=(yE.1 h).1;rw[HNn.out] at this;exact this) h);have hm:=HM.out;rw[hw] at hm;simp only[jFa,jOb] at hm;have HM2:=yH hm;clear hok hw hm HM HCl HRt;go_wp2_with fail
      go_loopw [10,37] (λv10 v37 wr=>∃(j:Nat) (mj:G.Mg) (done:List Nat) (mr p:PH),j<=M/\v37=.int .i64 (j:Int)/\done.length=j/\OwnP mr 3 1 v10 done.length (done.flatMap ivC)/\Gd mj j/\G.Mg.loadL rows (roots.drop j) mj done=some (m',out,er)/\MgAt D mj p/\Sat E I (PH.one X4 (.cells #[.slice A i c] 22)::p::mr::ms) wr) (λv10 v37 _=>(M-intOf v37).toNat)
      case atStart=>exact⟨0,m,[],Ku,p,jC _,rfl,rfl,OwnP.nil _ _,H0.out,HM2.out,HA.out,hS.empty.perm (jU (l₁:=[_,_])).symm⟩
      case round =>
       clear hS HA H0 HM2;obtain⟨j,mj,done,mr,p,hj,rfl,hdl,hO,hgd,hm,hA,hS⟩:=hrel;by_cases hlt2:j<M
       . obtain⟨e,he⟩:∃e,roots[j]?=some e:=⟨_,yA (by rw[HMm.out];exact hlt2)⟩
         obtain⟨Z,hB,hcell⟩:=HCr.out (by omega);subst hB;have hcell:=hcell j e he;have jM:(j:Int)<(M:Int):=by omega
         have hme:=jCb he;obtain⟨e1,e2⟩:=HRo.out e hme;have hdr:roots.drop j=e::roots.drop (j+1):=by
          rw[jL (by rw[HMm.out];exact hlt2)];congr 1
          have:=yA (l:=roots) (i:=j) (by rw[HMm.out];exact hlt2);rw[he] at this;injection this with this
          exact this.symm
         rw[hdr] at hm;unfold G.Mg.loadL at hm;obtain⟨Inv,hI,hK,hL,hD⟩:=HGi.out _ _ _ (by rw[HMm.out];exact hlt2) hgd hme;cases hdo:mj.do_ (G.load1 rows e.toNat) with
         | none=>rw[hdo] at hm;cases hm
         | some y =>
         obtain⟨m2,h,er2⟩:=y;rw[hdo] at hm;simp only[zK] at hm;obtain⟨e,rfl⟩:=jYa e1;simp only[Int.toNat_natCast] at hdo hm hD;have HD:=yH (λ(w:World) (X12:Nat) (hS:Sat E I (PH.one X12 (.cells #[nv e] 3)::PH.one X4 (.cells #[.slice A i c] 22)::p::mr::ms) w)=>mdo_pureI (bs:=[PH.one X12 (.cells #[nv e] 3),PH.one X4 (.cells #[.slice A i c] 22)]) (fid:=61) (cs := #[vPt X4,vPt X12]) (λJ l1 l2=>load1_op hK (by rw[HNn.out];omega) (PH.at_le (l2 _ (.tail _ (.head _))) (Qb rfl)) (HVl.out.le l1) (PH.at_le (l2 _ (.head _)) (Qb rfl)) (by rw[HNn.out];omega) hL) hK hD hI hdo hA hS);have HO:=yH hO;have HSt:=yH (λ(e0:er2=0)=>HG.out.step _ _ _ m2 h (by rw[HMm.out];exact hlt2) hgd hme (by rw[Int.toNat_natCast,hdo,e0]));have HHs:=yH (HG.out.hs _ _ _ m2 h er2 (by rw[HMm.out];exact hlt2) hgd hme (by rw[Int.toNat_natCast,hdo]));clear hO hK hL hD hI hdo hA hgd hdr he e1 e2 HCr;by_cases h0:er2=0
         . subst h0
           have hst:=HSt.out rfl;rw[jAb rfl] at hm;have HSt2:=yH hst;have HM3:=yH hm;clear hst hm HHs;have hO:=HO.out;go_wp2_with (first|(go_at_call 60;(with_reducible refine yI (HD.out _ _ hS) ?_);clear hS;rintro e' w ⟨rfl,p1,hA1,hS⟩;have HA1:=yH hA1;clear hA1;simp only[List.cons_append,List.nil_append] at hS)|(at_builtin;(refine' apP (p:=_) (m:=_) (v:=_) (n:=_) (xs:=_) (news:=_) 4 (.inr (List.Mem.head _)) hS rfl rfl rfl Tryz.underlying23 Ko rfl (by decide) rfl ?hown rfl ?hl ?hcl ?h1 ?h63 ?hby ?_);(case hown=>assumption);(case hcl=>exact Cells.one _ _ _ _);(case hl=>rfl);(case h1=>rfl);(case h63=>go_light;unfold maxLen;omega);(case hby=>go_light;omega);clear hS hO;intro v1 m1 w hO hS;(try simp only[zF,zG] at hS);(try simp only[Act.put,zE,zF,zG]))|((with_reducible refine Qu ?_);first|((with_reducible refine Xi 12 ?_);(refine' al (z:=_) hS rfl rfl ?ha ?_);(case ha=>exact ty_z3);clear hS;intro X12 w hS;(try simp only[Value.cells] at hS);(try simp only[Act.put,zE,zF,zG]))|((with_reducible refine isBuildSliceD 55 ?_);(refine' bsl hS ?hr ?_);(case hr=>(intro w0;go_simp;try rfl));clear hS;intro XS w hS;(try simp only[Act.put,zE,zF,zG]))|((with_reducible refine Qe ?_);( ((refine' ldI1 (v:=_) hS rfl rfl ?ha rfl ?hb ?_);(case ha=>exact Qh);(case hb=>assumption)));(try simp only[Act.put,zE,zF,zG]))|((with_reducible refine Xa ?_);(first|(refine st1 0 hS rfl rfl rfl rfl rfl ?ha rfl rfl ?hb ?_;(case ha=>exact Yg);(case hb=>(simp;done))));clear hS;intro w hS;(try simp only[zG,zE,Act.eval,zD,zC,zA,zB,zJ] at hS);(try simp only[Act.put])) ))
           exact⟨⟨j+1,m2,done++[h],m1,p1,by omega,by go_num,by rw[yG,hdl];rfl,by rw[yG,jNb];exact hO,HSt2.out,HM3.out,HA1.out,hS.drop.drop⟩,by simp[intOf];omega⟩
         . rw[jAa h0] at hm
           have d1:((er2:Int) != 0)=true:=by simp;omega
           cases hdp:m2.drop (done.map λ(h:Nat)=>(h:Int)) with
           | none=>rw[hdp] at hm;cases hm
           | some y =>
             obtain⟨m3,e3⟩:=y;rw[hdp] at hm;simp only[zK,jEa,jIa] at hm;obtain⟨rfl,rfl,rfl⟩:=hm;have HDr:=yH (λ(w:World) (p1 q4 q5:PH) (hA1:MgAt D m2 p1) (hS:Sat E I (q4::q5::p1::mr::ms) w)=>ldrop_any HO.out (by omega) HHs.out hdp hA1 hS);clear hdp h0 HSt HHs HGi HG HRo HMm HNn HVl;go_wp2_with (first|(go_at_call 60;(with_reducible refine yI (HD.out _ _ hS) ?_);clear hS;rintro e' w ⟨rfl,p1,hA1,hS⟩;have HA1:=yH hA1;clear hA1;simp only[List.cons_append,List.nil_append] at hS)|(go_at_call 65;(with_reducible refine yI (HDr.out _ _ _ _ HA1.out hS) ?_);clear hS;rintro e' w ⟨rfl,p2,hA2,hS⟩;have HA2:=yH hA2;clear hA2)|(refine aN 12 ?_;clear hS;intro X12 w hS)|(refine aL ?_)|(refine aS ?_;clear hS;intro w hS))
             go_ret2;exact⟨p2,Ku,⟨_,rfl,OwnP.nil _ _⟩,HA2.out,((hS.sub (.cons _ (.cons_cons _ (.cons _ (.cons _ (kBb _)))))).empty.pick 1 rfl)⟩
       . obtain rfl:j=M:=by omega
         rw[kVa (by rw[HMm.out];exact jBb _)] at hm;unfold G.Mg.loadL at hm;simp only[jEa,jIa] at hm;obtain⟨rfl,rfl,rfl⟩:=hm;have HO:=yH hO;have HA:=yH hA;clear hO hA hgd HG HGi HRo;go_wp2_with fail
         go_ret2;exact⟨p,mr,⟨_,rfl,HO.out⟩,HA.out,hS.drop⟩
end
end Go.Proofs.YtidamcdklgfogaaGreat
