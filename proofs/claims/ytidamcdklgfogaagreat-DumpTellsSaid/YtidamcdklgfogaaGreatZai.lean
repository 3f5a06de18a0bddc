import Derived.Test.YtidamcdklgfogaaGreatZab
import Derived.Test.YtidamcdklgfogaaGreatZah
set_option linter.unusedSimpArgs false
set_option linter.unusedVariables false
set_option maxRecDepth 100000
set_option maxHeartbeats 4000000
namespace Go.Proofs.YtidamcdklgfogaaGreat
section
open Go.RowKit
theorem bool_one (b:Bool):∀ u ∈ (Value.cells (.bool b)).toList,u.oneCell'=true:=by simp [Value.cells,Value.oneCell']
theorem isAppend {P:Program} {ops:Array Oper} {Q:Exit→Act→World→Prop} {rest:List Oper} {a:Act} {w:World} {dst:Option Tmp} {type:TypeId} {pos:String} {after:Array Edge} {s x:Operand} {t t':TypeId} (h:wpList P ops Q (⟨dst,.call { callee:=.builtin .append,args := #[s,x],argTypes := #[t,t'] },type,pos,after,none⟩::rest) a w) :
 wpList P ops Q (⟨dst,.call { callee:=.builtin .append,args := #[s,x],argTypes := #[t,t'] },type,pos,after,none⟩::rest) a w:=h
theorem OwnP.cut {m:PH} {e:TypeId} {size n k c:Nat} {X:Nat} {xs:List Value} (h:OwnP m e size (.slice (some ⟨X,0,none⟩) n c) n xs) (hk:k≤n):OwnP m e size (.slice (some ⟨X,0,none⟩) k k) k (xs.take (k * size)):=by
 have hks:k * size≤n * size:=Nat.mul_le_mul_right _ hk
 refine ⟨by rw [List.length_take,h.1];omega,?_⟩
 rcases h.2 with ⟨h0,_⟩|⟨g,cap,cur,hv,hm,h1,h2,h3,h4⟩
 · cases h0
 · injection hv with hA _ hC
   injection hA with hA
   injection hA with hA
   subst hA hC
   have hcs:k * size≤c * size:=Nat.mul_le_mul_right _ (by omega)
   refine .inr ⟨X,k,cur,rfl,hm,Nat.le_refl _,by omega,by omega,?_⟩
   rw [← h4,List.take_take,Nat.min_eq_left hks]
theorem OwnP.ptr {m:PH} {e:TypeId} {size n:Nat} {v:Value} {xs:List Value} (h:OwnP m e size v n xs) (hn:0<n):∃ X c,v=.slice (some ⟨X,0,none⟩) n c∧n≤c:=by
 rcases h.2 with ⟨_,h0,_⟩|⟨g,cap,cur,hv,_,hc,_⟩
 · omega
 · exact ⟨g,cap,hv,hc⟩
theorem ptake_free (E w:World) (I m:PH) (ms:List PH) (P:Nat) (p:G.Pl) (id:Nat) (n:G.Nd) (hfr:p.free.getLast?=some id) (h0:id≠0) (hlt:id<p.slots.length) (hnone:p.slots[id]?=some none) (hfit:Fits n) (hP:PoolAt P p m) (hS:Sat E I (m::ms) w) :
  Calls Tryz.prog 153 #[.pointer (some ⟨P,0,none⟩),ndA 0 n] w fun e w'=>e=.returned (.tuple #[nv id,.int .i64 0])∧∃ m',PoolAt P { p with slots:=p.slots.set id (some n),free:=p.free.dropLast } m'∧Sat E I (m'::ms) w':=by
 obtain ⟨hf,A,cA,T,cT,vF,mA,mT,mF,hbd,hA,hT,hF⟩:=hP
 obtain ⟨ys,hys⟩:=List.getLast?_eq_some_iff.1 hfr
 have hfl:p.free.length=ys.length+1:=by rw [hys];simp
 obtain ⟨F,cF,hvF,hcF⟩:=hF.ptr (by omega)
 subst hvF
 have hlen:=hf.len
 have hroom:=hf.room
 have hfle:=hf.free
 have hF2:OwnP mF 3 1 (.slice (some ⟨F,0,none⟩) ys.length ys.length) ys.length (ys.flatMap ivC):=by
  have:=hF.cut (k:=ys.length) (c:=cF) (by omega)
  rw [hys,List.flatMap_append,List.take_append_of_le_length (by rw [Zq Zn];omega),List.take_of_length_le (by rw [Zq Zn];omega)] at this
  exact this
 have hmany:=G.many_set_some (n:=n) hlt hnone
 have hml:=G.many_le p.slots
 have hF':OwnP mF 3 1 (.slice (some ⟨F,0,none⟩) (ys.length+1) cF) (ys.length+1) (p.free.flatMap ivC):=by rw [hfl] at hF;exact hF
 have iF:Cells mF F ys.length (ivC id):=by
  have:=Ke Zn hF' (i:=ys.length) (x:=id) (by rw [hys];simp)
  rwa [Nat.mul_one] at this
 have hfin:∀ m1 m2,OwnP m1 194 5 (.slice (some ⟨A,0,none⟩) p.slots.length cA) p.slots.length (spl (p.slots.zipIdx.flatMap ndC) (id * 5) (ndC (some n,id)))→OwnP m2 4 1 (.slice (some ⟨T,0,none⟩) p.slots.length cT) p.slots.length (spl (p.slots.flatMap tkC) id (tkC (some n))) →
   ∀ w',Sat E I (PH.one P (.cells #[nv p.room,.slice (some ⟨A,0,none⟩) p.slots.length cA,.slice (some ⟨T,0,none⟩) p.slots.length cT,.slice (some ⟨F,0,none⟩) ys.length ys.length,.int .i64 ((G.many p.slots:Int)+1)] 216)::m1::m2::mF::ms) w'→∃ m',PoolAt P { p with slots:=p.slots.set id (some n),free:=p.free.dropLast } m'∧Sat E I (m'::ms) w':=fun m1 m2 hO1 hO2 w' hS'=>by
  have hdl:p.free.dropLast=ys:=by rw [hys,List.dropLast_concat]
  obtain ⟨m3,hb2,hS2⟩:=Sat.pack [PH.one P (.cells #[nv p.room,.slice (some ⟨A,0,none⟩) p.slots.length cA,.slice (some ⟨T,0,none⟩) p.slots.length cT,.slice (some ⟨F,0,none⟩) ys.length ys.length,.int .i64 ((G.many p.slots:Int)+1)] 216),m1,m2,mF] hS'
  refine ⟨m3,⟨hf.set (fun _ h=>by cases h;exact hfit) (by rw [hdl];omega),A,cA,T,cT,.slice (some ⟨F,0,none⟩) ys.length ys.length,m1,m2,mF,?_,?_,?_,by rw [hdl];exact hF2⟩,hS2⟩
  · simp only [plV,List.length_set,hmany]
    rw [show nv (G.many p.slots+1)=.int .i64 ((G.many p.slots:Int)+1) by simp [nv]]
    exact hb2
  · simp only [List.length_set]
    rw [← zip_flat_set _ _ hlt]
    exact hO1
  · simp only [List.length_set]
    rw [← flat_set tkC_len _ _ hlt,Nat.mul_one]
    exact hO2
 have Hfin:=yH hfin
 have HOA:=yH hA
 have HOT:=yH hT
 have hS:=Sat.unpack hbd hS
 have HiF:=yH iF
 clear hfin hA hT hF hF' hF2 hmany hf hbd iF hnone hfr
 rw [hfl] at hS hfle
 simp only [plV,List.cons_append,List.nil_append] at hS
 generalize hk:ys.length=k at *
 have hkk:((k+1:Nat):Int) - 1=(k:Int):=by omega
 go_enter Tryz.func153,Tryz.ntmps153
 go_wp2_with (first|((with_reducible refine Qb ?_);(refine' ldP1 (v:=nv id) (.inr (List.Mem.tail _ (List.Mem.tail _ (List.Mem.tail _ (List.Mem.tail _ (List.Mem.head _)))))) hS rfl rfl Qf rfl (HiF.out.at 0 rfl) ?_);(try simp only [Act.put,zE,zF,zG]))|((with_reducible refine Qc ?_);first|((with_reducible refine Za 3 ?_);refine bx hS rfl rfl rfl ?_;clear hS;intro X w hS;(try simp only [Act.eval,zD,zC,zA,zB,zJ,Value.cells] at hS);(try simp only [Act.put,zE,zF,zG]))|((with_reducible refine Qb ?_);( (refine ld1 1 hS rfl rfl ?ha rfl rfl rfl ?_;(case ha =>  exact Kn)) );(try simp only [Act.put,zE,zF,zG]))|((with_reducible refine Qn ?_);(first|(refine st1 0 hS rfl rfl rfl rfl rfl ?ha rfl rfl ?hb ?_;(case ha =>  exact Kk );(case hb=>(simp;done)))|(refine st1 1 hS rfl rfl rfl rfl rfl ?ha rfl rfl ?hb ?_;(case ha =>  exact ty_sz23);(case hb=>(simp;done))) );clear hS;intro w hS;(try simp only [zF,zG,zE,Act.eval,zD,zC,zA,zB,zJ] at hS);(try simp only [Act.put])) ))
 obtain ⟨I1,_,lX,hS1,bX⟩:=hS.ice
 obtain ⟨I2,l12,lP,hS2,bP⟩:=hS1.ice
 have iXc:Cells I2 X 0 [nv id,nv n.v,nv n.lo,nv n.hi,nv n.refs]:=(Cells.one X #[nv id,nv n.v,nv n.lo,nv n.hi,nv n.refs] 194 (0,0)).le (lX.trans l12)
 have iP1:I2.at P 1=some (.slice (some ⟨A,0,none⟩) p.slots.length cA):=PH.at_le lP (Qk rfl)
 have iP2:I2.at P 2=some (.slice (some ⟨T,0,none⟩) p.slots.length cT):=PH.at_le lP (Qk rfl)
 have HbX:=yH bX
 have HbP:=yH bP
 clear hS hS1 bX bP lX lP l12
 refine Qx [[],[0],[0,1],[0,1,2],[],[],[5],[5,6],[5,6,7],[],[],[0,1,2,3,4,5,6,7,8,10],[0,1,2,3,4,5,6,7,8,10,11],[0,1,2,3,4,5,6,7,8,9,10,11,12],[0,1,2,3,4,5,6,7,8,9,10,11,12,13]] E I2 _
  [fun v _=>v=vPt P,fun v _=>v=vPt P,fun v _=>v=.pointer (some ⟨P,1,none⟩),fun v _=>v=.slice (some ⟨A,0,none⟩) p.slots.length cA,fun v _=>v=nv id,fun v _=>v=vPt P,fun v _=>v=vPt P,fun v _=>v=.pointer (some ⟨P,2,none⟩),fun v _=>v=.slice (some ⟨T,0,none⟩) p.slots.length cT,fun v _=>v=nv id,fun v _=>v=ndA id n,fun v _=>v=.pointer (some ⟨A,id * 5,none⟩),fun _ _=>True,fun v _=>v=.pointer (some ⟨T,id,none⟩),fun _ _=>True] [12,14]
  (set2G _ 0 1 (fun m'=>OwnP m' 194 5 (.slice (some ⟨A,0,none⟩) p.slots.length cA) p.slots.length (spl (p.slots.zipIdx.flatMap ndC) (id * 5) (ndC (some n,id)))) (fun m'=>OwnP m' 4 1 (.slice (some ⟨T,0,none⟩) p.slots.length cT) p.slots.length (spl (p.slots.flatMap tkC) id (tkC (some n))))) (by kernel_rfl) (by kernel_rfl) (by decide) hS2 rfl ?last (fun _ _ _ _ _ _ h=>h) (fun _ _ _ _ _ _ h=>h) ?plain ?step ?fin
 case last=>repeat (first|exact Lasting.nil|refine Lasting.cons (fun _ _ _ _ h=>h) ?_)
 case plain=>(repeat' (first|exact trivial|apply And.intro)) <;> first|exact .inl rfl|(refine .inr ?_;intro s vals J bs w hstop hg hJ hS hG;clear hG;simp only [zH,zI,Given,Facts] at hg;simp only [Qd,Qh,Qe,Qj,zH,zI,zA,zB,zK,if_true,Act.put,zE,zF,zG,hg];refine ⟨?_⟩;refine Qg (fun K hK=>?_);have HK:=yH hK;clear hK;rw [if_pos (by rfl)];(first|((with_reducible refine Qs ?_);first|((refine' Qq (v:=_) hS hJ ?ha rfl ?hc ?_);(case ha=>first|exact Zr|exact ty_agg24 );(case hc=>assumption))|((refine' wp_ldiN (vs:=_) hS hJ ?ha rfl ?hc ?hb ?_);(case ha=>first|exact Zg);(case hc=>assumption);(case hb=>first|exact Qt)))|(go_wp2_with (fail)));refine HK.out _ _ ⟨rfl,J,PH.le.refl _,hS,?_⟩;clear HK;simp only [Facts];simp only [Qo,zH,zI,Act.put,zE,zF,zG,zD,zC,zA,zB,zJ])
 case step =>
  refine ⟨⟨trivial,?_⟩,?_⟩
  · intro vals J bs w hg hJ hS hG
    have hG:bs=_:=hG
    subst hG
    simp only [zH,zI,Given,Facts] at hg;simp only [Qd,Qh,Qe,Qj,zH,zI,zA,zB,zK,if_true,Act.put,zE,zF,zG,hg];refine ⟨?_⟩;refine Qg (fun K hK=>?_);have HK:=yH hK;clear hK;rw [if_pos (by rfl)]
    refine Xr (i:=id) hS 0 rfl rfl rfl rfl HOA.out rfl hlt Qt rfl (ndA_one id n) fun m' w hO' hS=>?_
    exact HK.out _ _ ⟨rfl,J,_,PH.le.refl _,hS,trivial,m',hO',rfl⟩
  · intro vals J bs w hg hJ hS hG
    refine Veil.out ?_
    obtain ⟨mm,hmm,hG⟩:=hG
    subst hG
    refine ⟨?_⟩
    simp only [zH,zI,Given,Facts] at hg;simp only [Qd,Qh,Qe,Qj,zH,zI,zA,zB,zK,if_true,Act.put,zE,zF,zG,hg];refine ⟨?_⟩;refine Qg (fun K hK=>?_);have HK:=yH hK;clear hK;rw [if_pos (by rfl)]
    refine Xr (i:=id) hS 1 rfl rfl rfl rfl HOT.out (Nat.mul_one id).symm hlt ty_sz4 rfl (bool_one true) fun m' w hO' hS=>?_
    exact HK.out _ _ ⟨rfl,J,_,PH.le.refl _,hS,trivial,mm,m',hmm,hO',rfl⟩
 case fin =>
  intro vals J bs w hJ hg hS hG
  obtain ⟨m1,m2,hO1,hO2,hns⟩:=hG
  subst hns
  have hS:=hS.less hJ
  have hS:=(HbX.out _ _ (HbP.out _ _ hS)).drop
  have HO1:=yH hO1
  have HO2:=yH hO2
  clear hO1 hO2
  simp only [yB,yC,Nat.reduceAdd,Below_,Facts,zH,zI,true_and,and_true] at hg;simp only [yB,yC,Nat.reduceAdd,Qd,Qh,Qe,zA,zB,zK,if_true,Act.put,zE,zF,zG,hg];refine ⟨?_⟩
  clear hg
  simp only [zF,zG] at hS
  go_wp2_with (first|((with_reducible refine Qc ?_);first|((with_reducible refine Qb ?_);( (refine ld1 0 hS rfl rfl ?ha rfl rfl rfl ?_;(case ha=>exact Qf)) );(try simp only [Act.put,zE,zF,zG]))|((with_reducible refine Qn ?_);(first|(refine st1 0 hS rfl rfl rfl rfl rfl ?ha rfl rfl ?hb ?_;(case ha=>exact Kk);(case hb=>(simp;done))));clear hS;intro w hS;(try simp only [zF,zG,zE,Act.eval,zD,zC,zA,zB,zJ] at hS);(try simp only [Act.put])) ))
  go_ret2
  exact ⟨rfl,Hfin.out _ _ HO1.out HO2.out _ hS⟩
theorem PlFit.push {p:G.Pl} (h:PlFit p) {n:G.Nd} (hn:Fits n) (hl:p.slots.length≤p.room):PlFit { p with slots:=p.slots ++ [some n] }:=by
 refine ⟨h.room,by simp,by simp;omega,by simp;have:=h.free;omega,fun i a ha=>?_⟩
 have ha:(p.slots ++ [some n])[i]?=some (some a):=ha
 rcases Nat.lt_or_ge i p.slots.length with hi|hi
 · rw [List.getElem?_append_left hi] at ha;exact h.nd i a ha
 · rw [List.getElem?_append_right hi] at ha
   cases hj:i - p.slots.length with
   | zero=>rw [hj] at ha;simp at ha;subst ha;exact hn
   | succ j=>rw [hj] at ha;simp at ha
theorem spl_end (xs us:List Value) (n:Nat) (h:xs.length=n) (vs:List Value) (hl:us.length=vs.length):spl (xs ++ us) n vs=xs ++ vs:=by
 subst h
 unfold spl
 rw [List.take_left,← hl,List.drop_eq_nil_of_le (by simp)]
 simp
theorem ptake_new (E w:World) (I m:PH) (ms:List PH) (P:Nat) (p:G.Pl) (n:G.Nd) (hfr:p.free=[]) (hle:p.slots.length≤p.room) (hfit:Fits n) (hP:PoolAt P p m) (hS:Sat E I (m::ms) w) :
  Calls Tryz.prog 153 #[.pointer (some ⟨P,0,none⟩),ndA 0 n] w fun e w'=>e=.returned (.tuple #[nv p.slots.length,.int .i64 0])∧∃ m',PoolAt P { p with slots:=p.slots ++ [some n] } m'∧Sat E I (m'::ms) w':=by
 obtain ⟨hf,A0,cA0,T0,cT0,vF,mA,mT,mF,hbd,hA,hT,hF⟩:=hP
 obtain ⟨nF,cF,hvF,_⟩:=hF.shape
 subst hvF
 have hlen:=hf.len
 have hroom:=hf.room
 have hmany:G.many (p.slots ++ [some n])=G.many p.slots+1:=by rw [G.many_append];rfl
 have hml:=G.many_le p.slots
 have hfin:∀ A cA T cT m1 m2,OwnP m1 194 5 (.slice (some ⟨A,0,none⟩) (p.slots.length+1) cA) (p.slots.length+1) (spl (p.slots.zipIdx.flatMap ndC ++ node0.toList) (p.slots.length * 5) (ndC (some n,p.slots.length)))→OwnP m2 4 1 (.slice (some ⟨T,0,none⟩) (p.slots.length+1) cT) (p.slots.length+1) (spl (p.slots.flatMap tkC ++ [.bool false]) p.slots.length (tkC (some n))) →
   ∀ w',Sat E I (PH.one P (.cells #[nv p.room,.slice (some ⟨A,0,none⟩) (p.slots.length+1) cA,.slice (some ⟨T,0,none⟩) (p.slots.length+1) cT,.slice nF p.free.length cF,.int .i64 ((G.many p.slots:Int)+1)] 216)::m1::m2::mF::ms) w'→∃ m',PoolAt P { p with slots:=p.slots ++ [some n] } m'∧Sat E I (m'::ms) w':=fun A cA T cT m1 m2 hO1 hO2 w' hS'=>by
  obtain ⟨m3,hb2,hS2⟩:=Sat.pack [PH.one P (.cells #[nv p.room,.slice (some ⟨A,0,none⟩) (p.slots.length+1) cA,.slice (some ⟨T,0,none⟩) (p.slots.length+1) cT,.slice nF p.free.length cF,.int .i64 ((G.many p.slots:Int)+1)] 216),m1,m2,mF] hS'
  have e1:(p.slots ++ [some n]).length=p.slots.length+1:=by simp
  refine ⟨m3,⟨hf.push hfit hle,A,cA,T,cT,.slice nF p.free.length cF,m1,m2,mF,?_,?_,?_,hF⟩,hS2⟩
  · simp only [plV,e1,hmany]
    rw [show nv (G.many p.slots+1)=.int .i64 ((G.many p.slots:Int)+1) by simp [nv]]
    exact hb2
  · simp only [e1]
    rw [spl_end _ _ _ (by rw [Zq ndC_len];simp) _ (by rw [ndC_len];rfl)] at hO1
    rw [List.zipIdx_append,List.flatMap_append]
    simpa using hO1
  · simp only [e1]
    rw [spl_end _ _ _ (by rw [Zq tkC_len];simp) _ (by rw [tkC_len];rfl)] at hO2
    rw [List.flatMap_append]
    simpa using hO2
 have Hfin:=yH hfin
 have HF:=yH hF
 have hS:=Sat.unpack hbd hS
 have hk0:p.free.length=0:=by rw [hfr];rfl
 clear hfin hF hmany hf hbd hfr
 simp only [plV,List.cons_append,List.nil_append] at hS
 rw [hk0] at hS Hfin
 generalize hid:p.slots.length=id at *
 have hlt:id<id+1:=Nat.lt_succ_self _
 have hdec:decide ((p.room:Int)<(id:Int))=false:=by rw [decide_eq_false_iff_not];omega
 have hdecN:decide (p.room<id)=false:=by rw [decide_eq_false_iff_not];omega
 go_enter Tryz.func153,Tryz.ntmps153
 go_wp2_with (first|((with_reducible refine Qc ?_);first|((with_reducible refine Za 3 ?_);refine bx hS rfl rfl rfl ?_;clear hS;intro X w hS;(try simp only [Act.eval,zD,zC,zA,zB,zJ,Value.cells] at hS);(try simp only [Act.put,zE,zF,zG]))|((with_reducible refine Qb ?_);( (refine ld1 1 hS rfl rfl ?ha rfl rfl rfl ?_;(case ha =>  exact Kn)) );(try simp only [Act.put,zE,zF,zG])) ))
 obtain ⟨I1,_,lX,hS1,bX⟩:=hS.ice
 obtain ⟨I2,l12,lP,hS2,bP⟩:=hS1.ice
 have iP0:I2.at P 0=some (nv p.room):=PH.at_le lP (Qk rfl)
 have iP1:I2.at P 1=some (.slice (some ⟨A0,0,none⟩) id cA0):=PH.at_le lP (Qk rfl)
 have HbX:=yH bX
 have HbP:=yH bP
 have HOA:=yH hA
 have HOT:=yH hT
 clear hS hS1 bX bP lX lP l12 hA hT
 refine Qx [[],[0],[0,1],[0,1,2],[0,1,2,3],[],[5],[5,6],[5,6,7],[0,1,2,3,4,5,6,7,8]] E I2 _
  [fun v _=>v=vPt P,fun v _=>v=vPt P,fun v _=>v=.pointer (some ⟨P,1,none⟩),fun v _=>v=.slice (some ⟨A0,0,none⟩) id cA0,fun v _=>v=nv id,fun v _=>v=vPt P,fun v _=>v=vPt P,fun v _=>v=.pointer (some ⟨P,0,none⟩),fun v _=>v=nv p.room,fun v _=>v=.bool false] []
  (fun _ _ _ ns=>ns=mA::mT::mF::ms) (by kernel_rfl) (by kernel_rfl) (by decide) hS2 rfl ?last (fun _ _ _ _ _ _ h=>h) (fun _ _ _ _ _ _ h=>h) ?plain ?step ?fin
 case last=>repeat (first|exact Lasting.nil|refine Lasting.cons (fun _ _ _ _ h=>h) ?_)
 case plain =>
  (repeat' (first|exact trivial|apply And.intro)) <;>  (refine .inr ?_;intro s vals J bs w hstop hg hJ hS hG;clear hG;simp only [zH,zI,Given,Facts] at hg;simp only [Qd,Qh,Qe,Qj,zH,zI,zA,zB,zK,if_true,Act.put,zE,zF,zG,hg];refine ⟨?_⟩;refine Qg (fun K hK=>?_);have HK:=yH hK;clear hK;rw [if_pos (by rfl)];(first|((with_reducible refine Qs ?_);first|((refine' Qq (v:=_) hS hJ ?ha rfl ?hc ?_);(case ha=>first|exact Zr|exact Qf);(case hc=>assumption)))|(go_wp2_with (fail)));refine HK.out _ _ ⟨rfl,J,PH.le.refl _,hS,?_⟩;clear HK;simp only [Facts];simp only [Qo,zH,zI,Act.put,zE,zF,zG,zD,zC,zA,zB,zJ])
 case step=>trivial
 case fin =>
  intro vals J bs w hJ hg hS hG
  have hG:bs=_:=hG
  subst hG
  have hS:=hS.less hJ
  have hS:=HbX.out _ _ (HbP.out _ _ hS)
  clear HbX HbP iP0 iP1
  simp only [yB,yC,Nat.reduceAdd,Below_,Facts,zH,zI,true_and] at hg;simp only [yB,yC,Nat.reduceAdd,Qd,Qh,Qe,zA,zB,zK,if_true,Act.put,zE,zF,zG,hg];refine ⟨?_⟩
  clear hg
  go_wp2_with (first|((with_reducible refine isAppend ?_);(refine' apP (p:=_) (m:=_) (v:=_) (n:=_) (xs:=_) (news:=_) 3 (.inr (List.Mem.head _)) hS rfl rfl rfl Tryz.underlying214 node_info rfl (by decide) rfl HOA.out rfl ?hl ?hcl ?h1 ?h63 ?hby ?_);(case hcl=>exact Cells.one _ _ _ _);(case hl=>rfl);(case h1=>rfl);(case h63=>(unfold maxLen;omega));(case hby=>omega);clear hS;intro v1 m1 w hO1 hS;refine Veil.out ?_;obtain ⟨A,cA,rfl,_⟩:=OwnP.ptr hO1 (Nat.succ_pos _);refine ⟨?_⟩;have HO1:=yH hO1;clear hO1;(try simp only [zF,zG] at hS);(try simp only [Act.put,zE,zF,zG]))|((with_reducible refine isAppend ?_);(refine' apP (p:=_) (m:=_) (v:=_) (n:=_) (xs:=_) (news:=_) 5 (.inr (List.Mem.head _)) hS rfl rfl rfl Tryz.underlying24 bool_info rfl (by decide) rfl HOT.out rfl ?hl ?hcl ?h1 ?h63 ?hby ?_);(case hcl=>exact Cells.one _ _ _ _);(case hl=>rfl);(case h1=>rfl);(case h63=>(unfold maxLen;omega));(case hby=>omega);clear hS;intro v1 m2 w hO2 hS;refine Veil.out ?_;obtain ⟨T,cT,rfl,_⟩:=OwnP.ptr hO2 (Nat.succ_pos _);refine ⟨?_⟩;have HO2:=yH hO2;clear hO2;(try simp only [zF,zG] at hS);(try simp only [Act.put,zE,zF,zG]))|((with_reducible refine Qc ?_);first|((with_reducible refine Qb ?_);(first|(refine ld1 1 hS rfl rfl ?ha rfl rfl rfl ?_;(case ha =>  exact Zr ))|(refine ld1 2 hS rfl rfl ?ha rfl rfl rfl ?_;(case ha =>  exact ty_agg24)) );(try simp only [Act.put,zE,zF,zG]))|((with_reducible refine Qn ?_);(first|(refine st1 2 hS rfl rfl rfl rfl rfl ?ha rfl rfl ?hb ?_;(case ha=>first|exact ty_sz214|exact Kk );(case hb=>(simp;done)))|(refine st1 3 hS rfl rfl rfl rfl rfl ?ha rfl rfl ?hb ?_;(case ha =>  exact ty_sz24);(case hb=>(simp;done))) );clear hS;intro w hS;(try simp only [zF,zG,zE,Act.eval,zD,zC,zA,zB,zJ] at hS);(try simp only [Act.put]))|((with_reducible refine Kq ?_);(refine' bsl hS ?hr ?_);(case hr=>(intro w0;go_simp;rfl));clear hS;intro XS w hS;(try simp only [Act.eval,zD,zC,zA,zB,zJ,Value.cells] at hS);(try simp only [Act.put,zE,zF,zG]))))
  have hS:=hS.drop.drop
  obtain ⟨I1,_,lX,hS1,bX⟩:=hS.ice
  obtain ⟨I2,l12,lP,hS2,bP⟩:=hS1.ice
  have iXc:Cells I2 X 0 [nv id,nv n.v,nv n.lo,nv n.hi,nv n.refs]:=(Cells.one X #[nv id,nv n.v,nv n.lo,nv n.hi,nv n.refs] 194 (0,0)).le (lX.trans l12)
  have iP1:I2.at P 1=some (.slice (some ⟨A,0,none⟩) (id+1) cA):=PH.at_le lP (Qk rfl)
  have iP2:I2.at P 2=some (.slice (some ⟨T,0,none⟩) (id+1) cT):=PH.at_le lP (Qk rfl)
  have HbX:=yH bX
  have HbP:=yH bP
  clear hS hS1 bX bP lX lP l12
  refine Qx [[],[0],[0,1],[0,1,2],[],[],[5],[5,6],[5,6,7],[],[],[0,1,2,3,4,5,6,7,8,10],[0,1,2,3,4,5,6,7,8,10,11],[0,1,2,3,4,5,6,7,8,9,10,11,12],[0,1,2,3,4,5,6,7,8,9,10,11,12,13]] E I2 _
   [fun v _=>v=vPt P,fun v _=>v=vPt P,fun v _=>v=.pointer (some ⟨P,1,none⟩),fun v _=>v=.slice (some ⟨A,0,none⟩) (id+1) cA,fun v _=>v=nv id,fun v _=>v=vPt P,fun v _=>v=vPt P,fun v _=>v=.pointer (some ⟨P,2,none⟩),fun v _=>v=.slice (some ⟨T,0,none⟩) (id+1) cT,fun v _=>v=nv id,fun v _=>v=ndA id n,fun v _=>v=.pointer (some ⟨A,id * 5,none⟩),fun _ _=>True,fun v _=>v=.pointer (some ⟨T,id,none⟩),fun _ _=>True] [12,14]
   (set2G _ 0 1 (fun m'=>OwnP m' 194 5 (.slice (some ⟨A,0,none⟩) (id+1) cA) (id+1) (spl (p.slots.zipIdx.flatMap ndC ++ node0.toList) (id * 5) (ndC (some n,id)))) (fun m'=>OwnP m' 4 1 (.slice (some ⟨T,0,none⟩) (id+1) cT) (id+1) (spl (p.slots.flatMap tkC ++ [.bool false]) id (tkC (some n))))) (by kernel_rfl) (by kernel_rfl) (by decide) hS2 rfl ?last (fun _ _ _ _ _ _ h=>h) (fun _ _ _ _ _ _ h=>h) ?plain ?step ?fin
  case last=>repeat (first|exact Lasting.nil|refine Lasting.cons (fun _ _ _ _ h=>h) ?_)
  case plain=>(repeat' (first|exact trivial|apply And.intro)) <;> first|exact .inl rfl|(refine .inr ?_;intro s vals J bs w hstop hg hJ hS hG;clear hG;simp only [zH,zI,Given,Facts] at hg;simp only [Qd,Qh,Qe,Qj,zH,zI,zA,zB,zK,if_true,Act.put,zE,zF,zG,hg];refine ⟨?_⟩;refine Qg (fun K hK=>?_);have HK:=yH hK;clear hK;rw [if_pos (by rfl)];(first|((with_reducible refine Qs ?_);first|((refine' Qq (v:=_) hS hJ ?ha rfl ?hc ?_);(case ha=>first|exact Zr|exact ty_agg24 );(case hc=>assumption))|((refine' wp_ldiN (vs:=_) hS hJ ?ha rfl ?hc ?hb ?_);(case ha=>first|exact Zg);(case hc=>assumption);(case hb=>first|exact Qt)))|(go_wp2_with (fail)));refine HK.out _ _ ⟨rfl,J,PH.le.refl _,hS,?_⟩;clear HK;simp only [Facts];simp only [Qo,zH,zI,Act.put,zE,zF,zG,zD,zC,zA,zB,zJ])
  case step =>
   refine ⟨⟨trivial,?_⟩,?_⟩
   · intro vals J bs w hg hJ hS hG
     have hG:bs=_:=hG
     subst hG
     simp only [zH,zI,Given,Facts] at hg;simp only [Qd,Qh,Qe,Qj,zH,zI,zA,zB,zK,if_true,Act.put,zE,zF,zG,hg];refine ⟨?_⟩;refine Qg (fun K hK=>?_);have HK:=yH hK;clear hK;rw [if_pos (by rfl)]
     refine Xr (i:=id) hS 0 rfl rfl rfl rfl HO1.out rfl hlt Qt rfl (ndA_one id n) fun m' w hO' hS=>?_
     exact HK.out _ _ ⟨rfl,J,_,PH.le.refl _,hS,trivial,m',hO',rfl⟩
   · intro vals J bs w hg hJ hS hG
     refine Veil.out ?_
     obtain ⟨mm,hmm,hG⟩:=hG
     subst hG
     refine ⟨?_⟩
     simp only [zH,zI,Given,Facts] at hg;simp only [Qd,Qh,Qe,Qj,zH,zI,zA,zB,zK,if_true,Act.put,zE,zF,zG,hg];refine ⟨?_⟩;refine Qg (fun K hK=>?_);have HK:=yH hK;clear hK;rw [if_pos (by rfl)]
     refine Xr (i:=id) hS 1 rfl rfl rfl rfl HO2.out (Nat.mul_one id).symm hlt ty_sz4 rfl (bool_one true) fun m' w hO' hS=>?_
     exact HK.out _ _ ⟨rfl,J,_,PH.le.refl _,hS,trivial,mm,m',hmm,hO',rfl⟩
  case fin =>
   intro vals J bs w hJ hg hS hG
   obtain ⟨m1,m2,hO1,hO2,hns⟩:=hG
   subst hns
   have hS:=hS.less hJ
   have hS:=(HbX.out _ _ (HbP.out _ _ hS)).drop
   have HO1:=yH hO1
   have HO2:=yH hO2
   clear hO1 hO2
   simp only [yB,yC,Nat.reduceAdd,Below_,Facts,zH,zI,true_and,and_true] at hg;simp only [yB,yC,Nat.reduceAdd,Qd,Qh,Qe,zA,zB,zK,if_true,Act.put,zE,zF,zG,hg];refine ⟨?_⟩
   clear hg
   simp only [zF,zG] at hS
   go_wp2_with (first|((with_reducible refine Qc ?_);first|((with_reducible refine Qb ?_);( (refine ld1 0 hS rfl rfl ?ha rfl rfl rfl ?_;(case ha=>exact Qf)) );(try simp only [Act.put,zE,zF,zG]))|((with_reducible refine Qn ?_);(first|(refine st1 0 hS rfl rfl rfl rfl rfl ?ha rfl rfl ?hb ?_;(case ha=>exact Kk);(case hb=>(simp;done))));clear hS;intro w hS;(try simp only [zF,zG,zE,Act.eval,zD,zC,zA,zB,zJ] at hS);(try simp only [Act.put])) ))
   go_ret2
   exact ⟨rfl,Hfin.out _ _ _ _ _ _ HO1.out HO2.out _ hS⟩
end
end Go.Proofs.YtidamcdklgfogaaGreat
