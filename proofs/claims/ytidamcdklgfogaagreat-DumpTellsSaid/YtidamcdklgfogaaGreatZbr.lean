import Derived.Test.YtidamcdklgfogaaGreatZab
import Derived.Test.YtidamcdklgfogaaGreatZbq
set_option linter.unusedSimpArgs false
set_option linter.unusedVariables false
set_option maxRecDepth 100000
set_option maxHeartbeats 8000000
namespace Go.Proofs.YtidamcdklgfogaaGreat
namespace G
theorem Step.then_ok {α β:Type} {s:Step α} {f:Mg→α→Step β} {m':Mg} {b:β} (h:s.then f=some (m',.ok b)):∃ m1 a,s=some (m1,.ok a)∧f m1 a=some (m',.ok b):=by
 unfold Step.then at h
 cases s with
 | none=>cases h
 | some x =>
   obtain ⟨m1,rs⟩:=x
   cases rs with
   | ok a=>exact ⟨m1,a,rfl,h⟩
   | stop s=>cases h
theorem Step.then_ok2 {α β:Type} (m:Mg) (a:α) (f:Mg→α→Step β):Step.then (some (m,.ok a)) f=f m a:=rfl
theorem Step.then_assoc {α β γ:Type} (s:Step α) (f:Mg→α→Step β) (g:Mg→β→Step γ):(s.then f).then g=s.then fun m a=>(f m a).then g:=by
 unfold Step.then
 cases s with
 | none=>rfl
 | some x =>
   obtain ⟨m1,rs⟩:=x
   cases rs <;> rfl
def rowE (r:Rw3) (m:Mg) (ns:List Nat):Step Nat:=(m.mk_ r.v 1 0).then fun m v=>m.ite fuel v (flipIf (ns.getD (r.hi.toNat / 2) 0) (r.hi.toNat % 2 == 1)) (flipIf (ns.getD (r.lo.toNat / 2) 0) (r.lo.toNat % 2 == 1))
theorem loadE_cons (r:Rw3) (l:List Rw3) (m:Mg) (ns:List Nat):loadE (r::l) m ns=(rowE r m ns).then fun m k=>loadE l m (ns ++ [k]):=by
 unfold rowE
 rw [Step.then_assoc];rfl
theorem loadE_append:∀ (a b:List Rw3) (m:Mg) (ns:List Nat),loadE (a ++ b) m ns=(loadE a m ns).then fun m ns=>loadE b m ns
 | [],b,m,ns=>rfl
 | r::a,b,m,ns=>by
   rw [List.cons_append,loadE_cons,loadE_cons,Step.then_assoc]
   congr 1
   funext m k
   exact loadE_append a b m (ns ++ [k])
theorem loadE_len:∀ (l:List Rw3) (m m':Mg) (ns ns':List Nat),loadE l m ns=some (m',.ok ns')→ns'.length=ns.length+l.length
 | [],m,m',ns,ns',h=>by cases h;rfl
 | r::l,m,m',ns,ns',h=>by
   rw [loadE_cons] at h
   obtain ⟨m1,k,_,h2⟩:=Step.then_ok h
   rw [loadE_len l _ _ _ _ h2];simp only [yG,yB,yC];omega
end G
section
open Go.RowKit
structure LoadOk (Inv:G.Mg→Prop) (rows:List G.Rw3):Prop where
 pre:∀ m,Inv m→∀ i mi ns,G.loadE (rows.take i) m [0]=some (mi,.ok ns)→Inv mi∧∀ x ∈ ns,x<4611686018427387904
 mkv:∀ r ∈ rows,∀ m m' x,Inv m→m.mk_ r.v 1 0=some (m',.ok x)→Sane m'.s∧x<4611686018427387904
 refs:∀ (i:Nat) r,rows[i]?=some r→0≤r.lo∧0≤r.hi∧r.lo.toNat / 2≤i∧r.hi.toNat / 2≤i
def Row3R (J:PH) (v:Value) (l:List G.Rw3):Prop:=(l=[]∧v=.slice none 0 0)∨∃ X o c,v=.slice (some ⟨X,o,none⟩) l.length c∧l.length≤c∧∀ (i:Nat) x,l[i]?=some x→Cells J X (o+i * 3) (rowC x)
theorem Row3R.le {I J:PH} {v:Value} {l:List G.Rw3} (h:Row3R I v l) (hJ:I.le J):Row3R J v l:=by
 rcases h with h|⟨X,o,c,h1,h2,h3⟩
 · exact .inl h
 · exact .inr ⟨X,o,c,h1,h2,fun i x hx=>(h3 i x hx).le hJ⟩
theorem sl_head (A:Option Addr) (n c k:Nat) (hA:A=none∨∃ X o,A=some ⟨X,o,none⟩) (hk:k≤c) (w:World):(Instr.slice 22 (.slice A n c) none (some (.int .i64 (k:Int))) none).run Tryz.prog w=.ok (.slice A k c) w:=by
 have ht:Tryz.prog.underlying 22=some (.slice (Tryz.prog.elem 22)):=by kernel_rfl
 have hs:(sizeOf (Tryz.prog.elem 22)).run Tryz.prog w=.ok 3 w:=by kernel_rfl
 rw [run_slice_h w _ _ n c ht .i64 k (by omega) (by omega),hs]
 simp only [Result.andThen,sliced,Int.toNat_natCast,Nat.sub_zero,Nat.zero_mul]
 rcases hA with rfl|⟨X,o,rfl⟩
 · simp
 · simp [Addr.add]
theorem Row3R.shape {J:PH} {v:Value} {l:List G.Rw3} (h:Row3R J v l):∃ A c,v=.slice A l.length c∧(∀ k,k≤l.length→∀ w:World,(Instr.slice 22 (.slice A l.length c) none (some (.int .i64 (k:Int))) none).run Tryz.prog w=.ok (.slice A k c) w)∧(0<l.length→∃ X o,A=some ⟨X,o,none⟩∧∀ (i:Nat) x,l[i]?=some x→Cells J X (o+i * 3) (rowC x)):=by
 rcases h with ⟨rfl,rfl⟩|⟨X,o,c,rfl,h2,h3⟩
 · exact ⟨none,0,rfl,fun k hk w=>sl_head _ _ _ _ (.inl rfl) (by simpa using hk) w,fun h=>by simp at h⟩
 · exact ⟨_,c,rfl,fun k hk w=>sl_head _ _ _ _ (.inr ⟨X,o,rfl⟩) (by omega) w,fun _=>⟨X,o,rfl,h3⟩⟩
theorem edge_info:(Tryz.prog.info? 102).map (fun i=>(i.zero,i.size,i.bytes))=some (some (.int .i64 0),1,8):=by kernel_rfl
def ldG (D X5:Nat) (vr:Value) (mr p:PH) (m2:G.Mg) (k:Nat) (l:List Nat) (rest:List PH) (s:Nat) (vals:Nat→Value) (_:PH) (bs:List PH):Prop :=
 match s with
 | 0=>bs=PH.one X5 (.cells #[vr] 119)::mr::p::rest
 | 1=>∃ p1,MgAt D m2 p1∧bs=PH.one X5 (.cells #[vr] 119)::mr::p1::rest
 | 2=>∃ p1 XS,MgAt D m2 p1∧vals 12=.slice (some ⟨XS,0,none⟩) 1 1∧bs=PH.one XS (.cells #[nv k] 102)::PH.one X5 (.cells #[vr] 119)::mr::p1::rest
 | 3=>∃ p1 XS mr',MgAt D m2 p1∧OwnP mr' 102 1 (vals 13) (l.length+1) (l.flatMap ivC ++ [nv k])∧bs=PH.one XS (.cells #[nv k] 102)::PH.one X5 (.cells #[vr] 119)::mr'::p1::rest
 | _=>∃ p1 XS mr',MgAt D m2 p1∧OwnP mr' 102 1 (vals 13) (l.length+1) (l.flatMap ivC ++ [nv k])∧bs=PH.one XS (.cells #[nv k] 102)::PH.one X5 (.cells #[vals 13] 119)::mr'::p1::rest
section
variable {D X5:Nat} {vr:Value} {mr p:PH} {m2:G.Mg} {k:Nat} {l:List Nat} {rest:List PH}
theorem ldG_st (s:Nat) (vals vals':Nat→Value) (J:PH) (bs:List PH) (h:∀ j ∈ [11,12,13,14].take s,vals j=vals' j) (hG:ldG D X5 vr mr p m2 k l rest s vals J bs):ldG D X5 vr mr p m2 k l rest s vals' J bs:=by
 match s,h,hG with
 | 0,h,hG=>exact hG
 | 1,h,hG=>exact hG
 | 2,h,hG =>
   obtain ⟨p1,XS,h1,h2,h3⟩:=hG
   exact ⟨p1,XS,h1,by rw [← h 12 (by simp)];exact h2,h3⟩
 | 3,h,hG =>
   obtain ⟨p1,XS,mr',h1,h2,h3⟩:=hG
   exact ⟨p1,XS,mr',h1,by rw [← h 13 (by simp)];exact h2,h3⟩
 | s+4,h,hG =>
   obtain ⟨p1,XS,mr',h1,h2,h3⟩:=hG
   have e:=h 13 (by simp)
   exact ⟨p1,XS,mr',h1,by rw [← e];exact h2,by rw [← e];exact h3⟩
theorem ldG_x5 {s:Nat} {vals:Nat→Value} {J:PH} {bs:List PH} (hs:s≤2) (hG:ldG D X5 vr mr p m2 k l rest s vals J bs):PH.one X5 (.cells #[vr] 119) ∈ bs:=by
 match s,hs,hG with
 | 0,_,hG =>
   have hG:bs=_:=hG
   rw [hG];simp
 | 1,_,hG=>obtain ⟨p1,_,rfl⟩:=hG;simp
 | 2,_,hG=>obtain ⟨p1,XS,_,_,rfl⟩:=hG;simp
 | s+3,h,hG=>omega
end
theorem load1_op {D X1 X2:Nat} {J:PH} {Inv:G.Mg→Prop} (hK:KeepsM Inv) {rows:List G.Rw3} {root:Nat} {vl:Value} (hl:rows.length≤1000000) (h1:J.at X1 0=some vl) (hvl:Row3R J vl rows) (h2:J.at X2 0=some (nv root)) (hroot:root / 2≤rows.length) (hL:LoadOk Inv rows) :
  OpP 61 #[vPt X1,vPt X2] D J Inv (G.load1 rows root) where
 enter:=fun args w=>by kernel_rfl
 run:=by
  intro E I p q0 ms w m m' rs X hJ1 hI hF hX hA hq hS
  subst hq
  have i1:I.at X1 0=some vl:=PH.at_le hJ1 h1
  have i2:I.at X2 0=some (nv root):=PH.at_le hJ1 h2
  obtain ⟨A,c,rfl,hsl,hcells⟩:=(hvl.le hJ1).shape
  have hsl:=hsl _ hroot
  have d1:((root:Nat):Int) / 2=((root / 2:Nat):Int):=by omega
  have HC:=yH hcells
  have HA:=yH hA
  have HF:=yH hF
  have HI:=yH hI
  have HL:=yH hL
  have HKm:=yH hK
  clear hJ1 h1 h2 hvl hcells hA hF hI hL hK
  generalize hN:root / 2=N at *
  have HN0:=yH hN
  clear hN
  have hmf:∀ (fn:Fn) (first cap:Array Value) (w:World),(Instr.makeFunc fn first cap).run Tryz.prog w=.ok (.func fn first cap) w:=fun _ _ _ _=>rfl
  show Calls _ _ #[vPt X,vPt X1,vPt X2] _ _
  go_enter Tryz.func61,Tryz.ntmps61
  go_wp2_with (first|((with_reducible refine Qc ?_);first|((with_reducible refine Ql 5 ?_);(refine' al (z:=_) hS rfl rfl ?ha ?_);(case ha=>exact ty_z119);clear hS;intro X5 w hS;(try simp only [Value.cells] at hS);(try simp only [Act.put,zE,zF,zG]))|((with_reducible refine Xa 10 ?_);(refine' bsl hS ?hr ?_);(case hr=>(intro w0;go_simp;try rfl));clear hS;intro XS w hS;(try simp only [Act.eval,zD,zC,zA,zB,zJ,Value.cells] at hS);(try simp only [Act.put,zE,zF,zG]))|((with_reducible refine Qb ?_);( ((refine' Ka (v:=_) hS rfl rfl ?ha rfl ?hb ?_);(case ha=>first|exact Qf|exact ty_agg22);(case hb=>assumption)));(try simp only [Act.put,zE,zF,zG]))|((with_reducible refine Qn ?_);( (refine st1 0 hS rfl rfl rfl rfl rfl ?ha rfl rfl ?hb ?_;(case ha=>exact ty_sz119);(case hb=>(simp;done))) );clear hS;intro w hS;(try simp only [zG,zE,Act.eval,zD,zC,zA,zB,zJ] at hS);(try simp only [Act.put])) ))
  go_loopw [17] (fun v17 wr=>∃ (i:Nat) (mi:G.Mg) (l:List Nat) (vr:Value) (mr p:PH),i≤N∧v17=.int .i64 (i:Int)∧G.loadE (rows.take i) m [0]=some (mi,.ok l)∧MgAt D mi p∧OwnP mr 102 1 vr l.length (l.flatMap ivC)∧Sat E I (PH.one X5 (.cells #[vr] 119)::mr::p::ms) wr) (fun v17 _=>(N - intOf v17).toNat)
  case atStart=>exact ⟨0,m,[0],_,_,p,Nat.zero_le _,rfl,rfl,HA.out,OwnP.lit XS 102 1 1 #[nv 0] (by decide) rfl,hS.sub (.cons_cons _ (.cons_cons _ (.cons_cons _ (.cons _ (List.Sublist.refl _)))))⟩
  case round =>
   clear hS HA
   obtain ⟨i,mi,l,vr,mr,p,hi,rfl,hpre,hA,hO,hS⟩:=hrel
   have hll:=G.loadE_len _ _ _ _ _ hpre
   rw [List.length_take,Nat.min_eq_left (by omega),List.length_singleton] at hll
   obtain ⟨hIi,hli⟩:=HL.out.pre _ HI.out _ _ _ hpre
   have hOr:=hO.num
   have hf:=HF.out
   unfold G.load1 at hf
   rw [HN0.out] at hf
   by_cases hlt:i<N
   · obtain ⟨r,hr⟩:∃ r,rows[i]?=some r:=⟨_,yA (by omega)⟩
     obtain ⟨Y,oY,rfl,hcell⟩:=HC.out (by omega)
     have hcell:=hcell i r hr
     obtain ⟨f1,f2,f3,f4⟩:=HL.out.refs i r hr
     have hmk:=HL.out.mkv r (List.mem_of_getElem? hr) mi
     obtain ⟨v,lo,hi2⟩:=r
     simp only at f1 f2
     obtain ⟨lo,rfl⟩:=Int.eq_ofNat_of_zero_le f1
     obtain ⟨hi2,rfl⟩:=Int.eq_ofNat_of_zero_le f2
     simp only [Int.toNat_natCast] at f3 f4
     have htk:rows.take (i+1)=rows.take i ++ [⟨v,(lo:Int),(hi2:Int)⟩]:=by rw [List.take_add_one,hr];rfl
     have hsplit:rows.take N=rows.take i ++ ⟨v,(lo:Int),(hi2:Int)⟩::(rows.take N).drop (i+1):=by
      have e1:rows.take i=(rows.take N).take i:=by rw [List.take_take,Nat.min_eq_left (by omega)]
      have e2:(rows.take N).drop i=⟨v,(lo:Int),(hi2:Int)⟩::(rows.take N).drop (i+1):=by
       rw [List.drop_eq_getElem_cons (by rw [List.length_take];omega)]
       congr 1
       have:=yA (l:=rows) (i:=i) (by omega)
       rw [hr] at this
       injection this with this
       rw [List.getElem_take];exact this.symm
      rw [e1,← e2,List.take_append_drop]
     rw [hsplit,G.loadE_append,hpre] at hf
     simp only [G.Step.then_ok2] at hf
     rw [G.loadE_cons] at hf
     unfold G.rowE at hf
     simp only [Int.toNat_natCast] at hf
     have iN:(i:Int)<(N:Int):=by omega
     have HGa:=yH (fun (w:World) (h5:(Qa w).at X5 0=some vr) (hO:NumR (Qa w) vr l)=>lget_any h5 hO hi2 (by omega) (by omega) hli)
     have HGb:=yH (fun (w:World) (h5:(Qa w).at X5 0=some vr) (hO:NumR (Qa w) vr l)=>lget_any h5 hO lo (by omega) (by omega) hli)
     have ha:G.flipIf (l.getD (hi2 / 2) 0) (hi2 % 2 == 1)<4611686018427387904:=Kw (by
      rw [yD,yA (by omega:hi2 / 2<l.length)];exact hli _ (List.getElem_mem _)) _
     have hb:G.flipIf (l.getD (lo / 2) 0) (lo % 2 == 1)<4611686018427387904:=Kw (by
      rw [yD,yA (by omega:lo / 2<l.length)];exact hli _ (List.getElem_mem _)) _
     have hpre':∀ m1 x m2 k,mi.mk_ v 1 0=some (m1,.ok x)→m1.ite G.fuel x (G.flipIf (l.getD (hi2 / 2) 0) (hi2 % 2 == 1)) (G.flipIf (l.getD (lo / 2) 0) (lo % 2 == 1))=some (m2,.ok k)→G.loadE (rows.take (i+1)) m [0]=some (m2,.ok (l ++ [k])):=fun m1 x m2 k h1 h2=>by
      rw [htk,G.loadE_append,hpre]
      simp only [G.Step.then_ok2]
      rw [G.loadE_cons]
      unfold G.rowE
      simp only [Int.toNat_natCast]
      rw [h1]
      simp only [G.Step.then_ok2]
      rw [h2]
      rfl
     generalize G.flipIf (l.getD (hi2 / 2) 0) (hi2 % 2 == 1)=ea at *
     generalize G.flipIf (l.getD (lo / 2) 0) (lo % 2 == 1)=eb at *
     have HN:=yH hOr
     have HO:=yH hO
     clear hsplit htk hr hO hOr f1 f2 HC
     cases hm1:mi.mk_ v 1 0 with
     | none=>rw [hm1] at hf;cases hf
     | some y =>
       obtain ⟨m1,r1⟩:=y
       have HM:=yH (fun (w:World) (ms':List PH) (h:Sat E I (p::ms') w)=>xmk_any v 1 0 hm1 hX (by omega) (by omega) (HKm.out.sane _ hIi).tab hA h)
       rw [hm1] at hf
       cases r1 with
       | stop st =>
         have e:m'=m1∧rs=.stop st:=by cases hf;exact ⟨rfl,rfl⟩
         obtain ⟨rfl,rfl⟩:=e
         simp only [endE] at HM
         clear hf hpre hpre' hm1 hA hIi hli hmk HGa HGb HN HO HF HL HKm HI
         go_wp2_with (first|(go_at_call 63;(with_reducible refine yI (HM.out _ _ (hS.pick 3 rfl)) ?_);clear hS;rintro e w ⟨rfl,p1,hA1,hS⟩;have HA1:=yH hA1;clear hA1)|((with_reducible refine Qb ?_);(refine ldPN hS.ile rfl rfl Kt rfl hcell Qw ?_);(try simp only [Act.put,zE,zF,zG]))|((with_reducible refine Qc ?_);first|((with_reducible refine Ql 8 ?_);(refine' al (z:=_) hS rfl rfl ?ha ?_);(case ha=>exact Zz);clear hS;intro X8 w hS;(try simp only [Value.cells] at hS);(try simp only [Act.put,zE,zF,zG]))|((with_reducible refine Qb ?_);( (refine ld1 0 hS rfl rfl ?ha rfl rfl rfl ?_;(case ha=>exact Qf)) );(try simp only [Act.put,zE,zF,zG]))|((with_reducible refine Qn ?_);(first|(refine stN 0 hS rfl rfl rfl rfl rfl ?ha rfl rfl ?_;(case ha=>exact Qw)));clear hS;intro w hS;(try simp only [zG,Act.eval,zD,zC,zA,zB,zJ,Value.cells] at hS);(try simp only [Act.put])) ))
         refine ⟨rfl,?_⟩
         exact And.intro rfl ⟨p1,Xc,HA1.out,rfl,((hS.sub (.cons_cons _ (.cons _ (.cons _ (.cons _ (List.Sublist.refl _)))))).empty.pick 1 rfl)⟩
       | ok x =>
         simp only [G.Step.then_ok2] at hf
         simp only [endE] at HM
         obtain ⟨hs1,hx⟩:=hmk _ _ hIi hm1
         clear hmk
         cases hm2:m1.ite G.fuel x ea eb with
         | none=>rw [hm2] at hf;cases hf
         | some z =>
         obtain ⟨m2,r2⟩:=z
         have HIt:=yH (fun (J p:PH) (ns:List PH) (w:World) (hX:J.at X 0=some (vPt D)) (hA:MgAt D m1 p) (hS:Sat E J (p::ns) w)=>xite_any X D G.fuel m1 m2 x ea eb r2 hm2 hs1 hx ha hb E J p ns w hX hA hS)
         rw [hm2] at hf
         cases r2 with
         | stop st =>
           have e:m'=m2∧rs=.stop st:=by cases hf;exact ⟨rfl,rfl⟩
           obtain ⟨rfl,rfl⟩:=e
           simp only [endE] at HIt
           clear hf hpre hpre' hm1 hm2 hA hIi hli HF HL HKm HI hs1 hx ha hb
           go_wp2_with (first|(go_at_call 63;(with_reducible refine yI (HM.out _ _ (hS.pick 3 rfl)) ?_);clear hS;rintro e w ⟨rfl,p1,hA1,hS⟩;have HA1:=yH hA1;clear hA1;replace hS:=Sat.back (m:=p) 3 rfl hS;simp only [zF,zG] at hS)|((with_reducible refine Qb ?_);(refine ldPN hS.ile rfl rfl Kt rfl hcell Qw ?_);(try simp only [Act.put,zE,zF,zG]))|((with_reducible refine Qc ?_);first|((with_reducible refine Ql 8 ?_);(refine' al (z:=_) hS rfl rfl ?ha ?_);(case ha=>exact Zz);clear hS;intro X8 w hS;(try simp only [Value.cells] at hS);(try simp only [Act.put,zE,zF,zG]))|((with_reducible refine Qb ?_);( (refine ld1 0 hS rfl rfl ?ha rfl rfl rfl ?_;(case ha=>exact Qf)) );(try simp only [Act.put,zE,zF,zG]))|((with_reducible refine Qn ?_);( (refine stN 0 hS rfl rfl rfl rfl rfl ?ha rfl rfl ?_;(case ha=>exact Qw)) );clear hS;intro w hS;(try simp only [zG,Act.eval,zD,zC,zA,zB,zJ,Value.cells] at hS);(try simp only [Act.put])) ))
           obtain ⟨I8,l8,m8,hS8,b8⟩:=hS.ice
           have i81:I8.at X8 1=some (.int .i64 (lo:Int)):=PH.at_le m8 (Qk rfl)
           have i82:I8.at X8 2=some (.int .i64 (hi2:Int)):=PH.at_le m8 (Qk rfl)
           have hX8:=PH.at_le l8 hX
           have L8:=yH l8
           have B8:=yH b8
           clear hS l8 m8 b8
           have hS:=hS8
           clear hS8
           refine Zc (fun c w'=>c=stopE st∧∃ p2,MgAt D m' p2∧Sat E I8 (p2::ms) w') [[],[],[],[],[],[4],[3,4,5],[],[],[8],[3,4,5,6,7,8,9],[1,2,3,4,5,6,7,8,9,10],[1,2,3,4,5,6,7,8,9,10,11],[0,1,2,3,4,5,6,7,8,9,10,11,12],[0,1,2,3,4,5,6,7,8,9,10,11,12,13]] E I8 _
            [fun v _=>v=vr,fun v _=>v=vPt X,fun v _=>v=nv x,fun v _=>v=.func (.func 62) #[] #[vPt X5],fun v _=>v=.pointer (some ⟨X8,2,none⟩),fun v _=>v=nv hi2,fun v _=>v=nv ea,fun v _=>v=.func (.func 62) #[] #[vPt X5],fun v _=>v=.pointer (some ⟨X8,1,none⟩),fun v _=>v=nv lo,fun v _=>v=nv eb,fun _ _=>False,fun _ _=>True,fun _ _=>True,fun _ _=>True] []
            (fun _ _ _ bs=>bs=PH.one X5 (.cells #[vr] 119)::mr::p1::ms) (by kernel_rfl) (by kernel_rfl) (by decide) hS rfl ?last (fun _ _ _ _ _ _ h=>h) (fun _ _ _ _ _ _ h=>h) ?plain ?step ?hZ ?fin
           case last=>repeat (first|exact Lasting.nil|refine Lasting.cons (fun _ _ _ _ h=>h) ?_)
           case plain =>
            clear hS
            refine ⟨⟨⟨⟨⟨⟨⟨⟨⟨⟨⟨⟨⟨⟨⟨trivial,?q0⟩,?q1⟩,?q2⟩,?q3⟩,?q4⟩,?q5⟩,?q6⟩,?q7⟩,?q8⟩,?q9⟩,?q10⟩,?q11⟩,?q12⟩,?q13⟩,?q14⟩
            case q0=>refine .inr ?_;intro s vals J bs w hstop hg hJ hS hG;have hX5:PH.one X5 (.cells #[vr] 119) ∈ bs:=(by have hG:bs=_:=hG;rw [hG];simp);clear hG;simp only [zI,Given,Facts] at hg;simp only [Qd,Qh,Qj,zI];refine ⟨?_⟩;refine Qm (fun K hK=>?_);have HK:=yH hK;clear hK;rw [if_pos (by rfl)];(with_reducible refine Qs ?_);(refine' wp_ld1 (v:=vr) (hS.own _ hX5) rfl ty_agg119 rfl (Qk rfl) ?_);exact HK.out _ _ ⟨rfl,J,PH.le.refl _,hS,rfl⟩
            case q6=>refine .inr ?_;intro s vals J bs w hstop hg hJ hS hG;have hG:bs=_:=hG;subst hG;have hx5:(Qa w).at X5 0=some vr:=PH.at_le (hS.mle (k:=0) rfl) (Qk rfl);have hxr:NumR (Qa w) vr l:=HN.out.le (hS.mle (k:=1) rfl);simp only [zH,zI,Given,Facts] at hg;simp only [Qd,Qh,Qe,Qj,zH,zI,zA,zB,zK,if_true,Act.put,zE,zF,zG,hg];refine ⟨?_⟩;refine Qm (fun K hK=>?_);have HK:=yH hK;clear hK;rw [if_pos (by rfl)];go_wp2_with (go_at_call 62;(with_reducible refine yI (HGa.out _ hx5 hxr) ?_);rintro e w2 ⟨rfl,rfl⟩);exact HK.out _ _ ⟨rfl,J,PH.le.refl _,hS,rfl⟩
            case q10=>refine .inr ?_;intro s vals J bs w hstop hg hJ hS hG;have hG:bs=_:=hG;subst hG;have hx5:(Qa w).at X5 0=some vr:=PH.at_le (hS.mle (k:=0) rfl) (Qk rfl);have hxr:NumR (Qa w) vr l:=HN.out.le (hS.mle (k:=1) rfl);simp only [zH,zI,Given,Facts] at hg;simp only [Qd,Qh,Qe,Qj,zH,zI,zA,zB,zK,if_true,Act.put,zE,zF,zG,hg];refine ⟨?_⟩;refine Qm (fun K hK=>?_);have HK:=yH hK;clear hK;rw [if_pos (by rfl)];go_wp2_with (go_at_call 62;(with_reducible refine yI (HGb.out _ hx5 hxr) ?_);rintro e w2 ⟨rfl,rfl⟩);exact HK.out _ _ ⟨rfl,J,PH.le.refl _,hS,rfl⟩
            case q11=>refine .inr ?_;intro s vals J bs w hstop hg hJ hS hG;have hG:bs=_:=hG;subst hG;simp only [zH,zI,Given,Facts] at hg;simp only [Qd,Qh,Qe,Qj,zH,zI,zA,zB,zK,if_true,Act.put,zE,zF,zG,hg];refine ⟨?_⟩;refine Qm (fun K hK=>?_);have HK:=yH hK;clear hK;rw [if_pos (by rfl)];go_wp2_with (go_at_call 64;(with_reducible refine yI (HIt.out _ _ _ _ (PH.at_le hJ hX8) HA1.out (hS.pick 2 rfl)) ?_);clear hS;rintro e w ⟨rfl,_,_,p2,hA2,hS⟩;have HA2:=yH hA2;clear hA2);exact And.intro rfl ⟨p2,HA2.out,(hS.less hJ).sub (.cons_cons _ (.cons _ (.cons _ (List.Sublist.refl _))))⟩
            all_goals first|(refine .inr ?_;intro s vals J bs w hstop hg hJ hS hG;exfalso;simp only [zH,zI,Given,Facts,and_false,false_and] at hg;done)|(refine .inr ?_;intro s vals J bs w hstop hg hJ hS hG;clear hG;simp only [zH,zI,Given,Facts] at hg;simp only [Qd,Qh,Qe,Qj,zH,zI,zA,zB,zK,if_true,Act.put,zE,zF,zG,hg];refine ⟨?_⟩;refine Qm (fun K hK=>?_);have HK:=yH hK;clear hK;rw [if_pos (by rfl)];(first|((with_reducible refine Qs ?_);  ((refine' Qq (v:=_) hS hJ ?ha rfl ?hc ?_);(case ha =>  exact Qf );(case hc=>assumption)) )|(go_wp2_with (fail)));refine HK.out _ _ ⟨rfl,J,PH.le.refl _,hS,?_⟩;clear HK;simp only [Facts];simp only [Qo,zH,zI,Act.put,zE,zF,zG,zD,zC,zA,zB,zJ])
           case step=>trivial
           case hZ =>
            rintro c b w' hd ⟨rfl,p2,hA2,hS'⟩
            exact ⟨hd,rfl,p2,Xc,hA2,rfl,(((B8.out _ _ hS').drop).empty.pick 1 rfl)⟩
           case fin =>
            intro vals J9 bs w hJ hg hS hG
            exact False.elim (by simp only [yB,yC,Nat.reduceAdd,Below_,Facts,zH,zI,true_and,and_true] at hg;simp at hg)
         | ok k =>
           have HPre:=yH (hpre' _ _ _ _ hm1 hm2)
           simp only [endE] at HIt
           clear hf hpre hpre' hm1 hm2 hA hIi hli hs1 hx ha hb
           go_wp2_with (first|(go_at_call 63;(with_reducible refine yI (HM.out _ _ (hS.pick 3 rfl)) ?_);clear hS;rintro e w ⟨rfl,p1,hA1,hS⟩;have HA1:=yH hA1;clear hA1;replace hS:=Sat.back (m:=p) 3 rfl hS;simp only [zF,zG] at hS)|((with_reducible refine Qb ?_);(refine ldPN hS.ile rfl rfl Kt rfl hcell Qw ?_);(try simp only [Act.put,zE,zF,zG]))|((with_reducible refine Qc ?_);first|((with_reducible refine Ql 8 ?_);(refine' al (z:=_) hS rfl rfl ?ha ?_);(case ha=>exact Zz);clear hS;intro X8 w hS;(try simp only [Value.cells] at hS);(try simp only [Act.put,zE,zF,zG]))|((with_reducible refine Qb ?_);( (refine ld1 0 hS rfl rfl ?ha rfl rfl rfl ?_;(case ha=>exact Qf)) );(try simp only [Act.put,zE,zF,zG]))|((with_reducible refine Qn ?_);( (refine stN 0 hS rfl rfl rfl rfl rfl ?ha rfl rfl ?_;(case ha=>exact Qw)) );clear hS;intro w hS;(try simp only [zG,Act.eval,zD,zC,zA,zB,zJ,Value.cells] at hS);(try simp only [Act.put])) ))
           obtain ⟨I8,l8,m8,hS8,b8⟩:=hS.ice
           have i81:I8.at X8 1=some (.int .i64 (lo:Int)):=PH.at_le m8 (Qk rfl)
           have i82:I8.at X8 2=some (.int .i64 (hi2:Int)):=PH.at_le m8 (Qk rfl)
           have hX8:=PH.at_le l8 hX
           have L8:=yH l8
           have B8:=yH b8
           clear hS l8 m8 b8
           have hS:=hS8
           clear hS8
           refine Zc (fun _ _=>False) [[],[],[],[],[],[4],[3,4,5],[],[],[8],[3,4,5,6,7,8,9],[1,2,3,4,5,6,7,8,9,10],[1,2,3,4,5,6,7,8,9,10,11],[0,1,2,3,4,5,6,7,8,9,10,11,12],[0,1,2,3,4,5,6,7,8,9,10,11,12,13]] E I8 _
            [fun v _=>v=vr,fun v _=>v=vPt X,fun v _=>v=nv x,fun v _=>v=.func (.func 62) #[] #[vPt X5],fun v _=>v=.pointer (some ⟨X8,2,none⟩),fun v _=>v=nv hi2,fun v _=>v=nv ea,fun v _=>v=.func (.func 62) #[] #[vPt X5],fun v _=>v=.pointer (some ⟨X8,1,none⟩),fun v _=>v=nv lo,fun v _=>v=nv eb,fun v _=>v=nv k,fun _ _=>True,fun _ _=>True,fun _ _=>True] [11,12,13,14]
            (ldG D X5 vr mr p1 m2 k l ms) (by kernel_rfl) (by kernel_rfl) (by decide) hS rfl ?last ldG_st (fun _ _ _ _ _ _ h=>h) ?plain ?step ?hZ ?fin
           case last=>repeat (first|exact Lasting.nil|refine Lasting.cons (fun _ _ _ _ h=>h) ?_)
           case hZ=>exact fun _ _ _ _ h=>h.elim
           case plain =>
            clear hS
            refine ⟨⟨⟨⟨⟨⟨⟨⟨⟨⟨⟨⟨⟨⟨⟨trivial,?r0⟩,?r1⟩,?r2⟩,?r3⟩,?r4⟩,?r5⟩,?r6⟩,?r7⟩,?r8⟩,?r9⟩,?r10⟩,.inl rfl⟩,.inl rfl⟩,.inl rfl⟩,.inl rfl⟩
            case r0=>refine .inr ?_;intro s vals J bs w hstop hg hJ hS hG;have hX5:=ldG_x5 (Nat.le_trans hstop (by decide)) hG;clear hG;simp only [zI,Given,Facts] at hg;simp only [Qd,Qh,Qj,zI];refine ⟨?_⟩;refine Qm (fun K hK=>?_);have HK:=yH hK;clear hK;rw [if_pos (by rfl)];(with_reducible refine Qs ?_);(refine' wp_ld1 (v:=vr) (hS.own _ hX5) rfl ty_agg119 rfl (Qk rfl) ?_);exact HK.out _ _ ⟨rfl,J,PH.le.refl _,hS,rfl⟩
            case r6=>refine .inr ?_;intro s vals J bs w hstop hg hJ hS hG;have h0:s≤0:=hstop;obtain rfl:s=0:=Nat.le_zero.1 h0;have hG:bs=_:=hG;subst hG;have hx5:(Qa w).at X5 0=some vr:=PH.at_le (hS.mle (k:=0) rfl) (Qk rfl);have hxr:NumR (Qa w) vr l:=HN.out.le (hS.mle (k:=1) rfl);simp only [zH,zI,Given,Facts] at hg;simp only [Qd,Qh,Qe,Qj,zH,zI,zA,zB,zK,if_true,Act.put,zE,zF,zG,hg];refine ⟨?_⟩;refine Qm (fun K hK=>?_);have HK:=yH hK;clear hK;rw [if_pos (by rfl)];go_wp2_with (go_at_call 62;(with_reducible refine yI (HGa.out _ hx5 hxr) ?_);rintro e w2 ⟨rfl,rfl⟩);exact HK.out _ _ ⟨rfl,J,PH.le.refl _,hS,rfl⟩
            case r10=>refine .inr ?_;intro s vals J bs w hstop hg hJ hS hG;have h0:s≤0:=hstop;obtain rfl:s=0:=Nat.le_zero.1 h0;have hG:bs=_:=hG;subst hG;have hx5:(Qa w).at X5 0=some vr:=PH.at_le (hS.mle (k:=0) rfl) (Qk rfl);have hxr:NumR (Qa w) vr l:=HN.out.le (hS.mle (k:=1) rfl);simp only [zH,zI,Given,Facts] at hg;simp only [Qd,Qh,Qe,Qj,zH,zI,zA,zB,zK,if_true,Act.put,zE,zF,zG,hg];refine ⟨?_⟩;refine Qm (fun K hK=>?_);have HK:=yH hK;clear hK;rw [if_pos (by rfl)];go_wp2_with (go_at_call 62;(with_reducible refine yI (HGb.out _ hx5 hxr) ?_);rintro e w2 ⟨rfl,rfl⟩);exact HK.out _ _ ⟨rfl,J,PH.le.refl _,hS,rfl⟩
            all_goals (refine .inr ?_;intro s vals J bs w hstop hg hJ hS hG;clear hG;simp only [zH,zI,Given,Facts] at hg;simp only [Qd,Qh,Qe,Qj,zH,zI,zA,zB,zK,if_true,Act.put,zE,zF,zG,hg];refine ⟨?_⟩;refine Qm (fun K hK=>?_);have HK:=yH hK;clear hK;rw [if_pos (by rfl)];(first|((with_reducible refine Qs ?_);  ((refine' Qq (v:=_) hS hJ ?ha rfl ?hc ?_);(case ha =>  exact Qf );(case hc=>assumption)) )|(go_wp2_with (fail)));refine HK.out _ _ ⟨rfl,J,PH.le.refl _,hS,?_⟩;clear HK;simp only [Facts];simp only [Qo,zH,zI,Act.put,zE,zF,zG,zD,zC,zA,zB,zJ])
           case step =>
            clear hS
            refine ⟨⟨⟨⟨trivial,?s0⟩,?s1⟩,?s2⟩,?s3⟩
            case s0 =>
             intro vals J bs w hg hJ hS hG
             have hG:bs=_:=hG
             subst hG
             simp only [zH,zI,Given,Facts] at hg;simp only [Qd,Qh,Qe,Qj,zH,zI,zA,zB,zK,if_true,Act.put,zE,zF,zG,hg];refine ⟨?_⟩;refine Qm (fun K hK=>?_);have HK:=yH hK;clear hK;rw [if_pos (by rfl)]
             go_wp2_with (go_at_call 64;(with_reducible refine yI (HIt.out _ _ _ _ (PH.at_le hJ hX8) HA1.out (hS.pick 2 rfl)) ?_);clear hS;rintro e w ⟨rfl,_,_,p2,hA2,hS⟩;have HA2:=yH hA2;clear hA2)
             replace hS:=Sat.back (m:=p1) 2 rfl hS
             simp only [zF,zG] at hS
             exact HK.out _ _ ⟨rfl,J,_,PH.le.refl _,hS,rfl,p2,HA2.out,rfl⟩
            case s1 =>
             intro vals J bs w hg hJ hS hG
             obtain ⟨p2,hA2,rfl⟩:=hG
             have HA2:=yH hA2
             clear hA2
             simp only [zH,zI,Given,Facts] at hg;simp only [Qd,Qh,Qe,Qj,zH,zI,zA,zB,zK,if_true,Act.put,zE,zF,zG,hg];refine ⟨?_⟩;refine Qm (fun K hK=>?_);have HK:=yH hK;clear hK;rw [if_pos (by rfl)]
             refine wp_bsl (cs := #[nv k]) (e:=102) hS (fun w0=>by go_simp) fun XS w' hS'=>?_
             exact HK.out _ _ ⟨rfl,J,_,PH.le.refl _,hS',trivial,p2,XS,HA2.out,rfl,rfl⟩
            case s2 =>
             intro vals J bs w hg hJ hS hG
             obtain ⟨p2,XS,hA2,e12,rfl⟩:=hG
             have HA2:=yH hA2
             clear hA2
             simp only [zH,zI,Given,Facts] at hg;simp only [Qd,Qh,Qe,Qj,zH,zI,zA,zB,zK,if_true,Act.put,zE,zF,zG,hg,e12];refine ⟨?_⟩;refine Qm (fun K hK=>?_);have HK:=yH hK;clear hK;rw [if_pos (by rfl)]
             refine wp_apP (p:=PH.one XS (.cells #[nv k] 102)) (m:=mr) (v:=vr) (n:=l.length) (xs:=l.flatMap ivC) (news:=[nv k]) hS 2 rfl (.inr (.head _)) rfl Tryz.underlying119 edge_info rfl (by decide) rfl HO.out rfl rfl (Cells.one _ _ _ _) rfl (by unfold maxLen;omega) (by omega) fun v' m'' w' hO' hS'=>?_
             exact HK.out _ _ ⟨rfl,J,_,PH.le.refl _,hS',trivial,p2,XS,m'',HA2.out,hO',rfl⟩
            case s3 =>
             intro vals J bs w hg hJ hS hG
             obtain ⟨p2,XS,mr',hA2,g0,rfl⟩:=hG
             obtain ⟨A13,c13,e13,_⟩:=OwnP.shape g0
             have HA2:=yH hA2
             clear hA2
             simp only [zH,zI,Given,Facts] at hg;simp only [Qd,Qh,Qe,Qj,zH,zI,zA,zB,zK,if_true,Act.put,zE,zF,zG,hg,e13];refine ⟨?_⟩;refine Qm (fun K hK=>?_);have HK:=yH hK;clear hK;rw [if_pos (by rfl)]
             refine wp_st1 hS 1 rfl rfl rfl rfl ty_sz119 rfl rfl (by simp) fun w' hS'=>?_
             refine HK.out _ _ ⟨rfl,J,_,PH.le.refl _,hS',trivial,p2,XS,mr',HA2.out,g0,?_⟩
             rw [show upd vals 14 _ 13=vals 13 from rfl,e13]
             rfl
           case fin =>
            intro vals J9 bs w hJ hg hS hG
            obtain ⟨p2,XS,mr',hA2,g0,rfl⟩:=hG
            have HA2:=yH hA2
            have g0:=yH g0
            have hS:=(hS.less hJ).drop
            clear hJ hA2 HIt HM
            simp only [yB,yC,Nat.reduceAdd,Below_,Facts,zH,zI,true_and,and_true] at hg;simp only [yB,yC,Nat.reduceAdd,Qd,Qh,Qe,zA,zB,zK,if_true,Act.put,zE,zF,zG,hg];refine ⟨?_⟩
            clear hg
            go_wp2_with (fail)
            exact ⟨⟨i+1,m2,l ++ [k],vals 13,mr',p2,by omega,by go_num,HPre.out,HA2.out,by rw [yG,List.flatMap_append];exact g0.out,(B8.out _ _ hS).drop⟩,by simp [intOf];omega⟩
   · obtain rfl:i=N:=by omega
     rw [hpre] at hf
     simp only [G.Step.then_ok2] at hf
     have e:m'=mi∧rs=.ok (G.flipIf (l.getD i 0) (root % 2 == 1)):=by cases hf;exact ⟨rfl,rfl⟩
     obtain ⟨rfl,rfl⟩:=e
     have HGr:=yH (fun (w:World) (h5:(Qa w).at X5 0=some vr) (hO:NumR (Qa w) vr l)=>lget_any h5 hO root (by have:=HN0.out;omega) (by omega) hli)
     rw [HN0.out] at HGr
     obtain ⟨ey,hey⟩:∃ y,l.getD i 0=y:=⟨_,rfl⟩
     rw [hey] at HGr
     have HEy:=yH hey
     clear hey
     have HN:=yH hOr
     have HA:=yH hA
     clear hf hpre hIi hli HF HL HKm HI hO hOr HC hA
     go_wp2_with (first|(go_at_call 62;(with_reducible refine yI (HGr.out _ (PH.at_le (hS.mle (k:=0) rfl) (Qk rfl)) (HN.out.le (hS.mle (k:=1) rfl))) ?_);rintro e w2 ⟨rfl,rfl⟩)|((with_reducible refine Qc ?_);first|((with_reducible refine Qb ?_);( ((refine' Ka (v:=_) hS rfl rfl ?ha rfl ?hb ?_);(case ha=>exact Qf);(case hb=>assumption)));(try simp only [Act.put,zE,zF,zG]))))
     go_ret
     exact ⟨by rw [HEy.out];rfl,p,Xc,HA.out,rfl,(hS.drop.drop.empty.pick 1 rfl)⟩
end
end Go.Proofs.YtidamcdklgfogaaGreat
