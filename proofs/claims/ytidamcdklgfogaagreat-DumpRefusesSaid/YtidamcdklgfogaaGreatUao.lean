import Derived.Test.YtidamcdklgfogaaGreatShelf
import Derived.Test.YtidamcdklgfogaaGreatUam
set_option linter.unusedSectionVars false
set_option linter.unusedVariables false
set_option linter.unusedSimpArgs false
set_option maxRecDepth 100000
set_option maxHeartbeats 4000000
namespace Go.Proofs.YtidamcdklgfogaaGreat
section
open Go.RowKit Go.Sort Go.Shelf Go.Lib
section
variable{α:Type} [Inhabited α] {enc:α->List Value} {k:Nat}
theorem flatE_len(hk:∀x,(enc x).length=k):∀l:List α,(l.flatMap enc).length=l.length*k
 | []=>by simp
 | x::l=>by rw[jMb,yG,hk,flatE_len hk l,yB,kPb,Nat.one_mul,Nat.add_comm]
theorem flatE_get(hk:∀x,(enc x).length=k)(k0:0<k):∀(l:List α) (t:Nat),t<l.length*k->(l.flatMap enc)[t]?=some ((enc (l[t/k]!))[t%k]!)
 | [],t,h=>by simp at h
 | x::l,t,h=>by
   rw[jMb];by_cases ht:t<k
   . rw[jHa (by rw[hk];exact ht),Nat.div_eq_of_lt ht,kJ ht]
     have:t<(enc x).length:=by rw[hk];exact ht
     simp[this]
   . have ht':k<=t:=by omega
     rw[jOa (by rw[hk];exact ht'),hk,flatE_get hk k0 l (t-k) (by rw[yB,kPb] at h;omega)];have e1:t/k=(t-k)/k+1:=by
      rw[show t=(t-k)+k by omega,Nat.add_div_right _ k0];simp
     have e2:t%k=(t-k)%k:=by
      conv=>lhs;rw[show t=(t-k)+k by omega,Nat.add_mod_right]
     rw[e1,e2];simp
theorem flatK_list(hk:∀x,(enc x).length=k)(k0:0<k)(l:List α):(Go.Sort.flatK enc k l.toArray).toList=l.flatMap enc:=by
 apply kEb;intro t;by_cases ht:t<l.length*k
 . rw[flatE_get hk k0 l t ht,kRa]
   have hs:t<(Go.Sort.flatK enc k l.toArray).size:=by simpa using ht
   rw[jUb hs]
   have:=get_flatK enc k l.toArray t (by simpa using ht);rw[getElem!_pos _ t hs] at this;rw[this];simp
 . rw[jJ (by simp;omega),jJ (by rw[flatE_len hk];omega)]
end
section
variable{α:Type} [Inhabited α] {enc:α->List Value} {k:Nat} {E w:World} {I m:PH} {ms:List PH} {e:TypeId} {l l':List α}
theorem OwnP.holds(hk:∀x,(enc x).length=k)(k0:0<k){g cap:Nat}{cur:Array Value}(hg:w.heap[g]?=some (.cells cur e (0,0)))(hc:cap*k<=cur.size)(hn:l.length<=cap)(ht:cur.toList.take (l.length*k)=l.flatMap enc) :
  HoldsK enc k w g 0 l.toArray:=by
 intro j hj;rw[size_flatK] at hj;have hj':j<l.length*k:=by simpa using hj
 have h1:(l.flatMap enc)[j]?=cur.toList[j]?:=by rw[<- ht,kN hj']
 have h2:(Go.Sort.flatK enc k l.toArray)[j]?=cur[j]?:=by
  rw[<- kRa,flatK_list hk k0,h1,kRa]
 have h3:j<(Go.Sort.flatK enc k l.toArray).size:=by simpa using hj'
 rw[jUb h3] at h2;refine⟨?_,by simp[World.frozen?,hg]⟩;rw[jLb,cell_of_row w g j cur e (0,0) hg,<- h2,getElem!_pos _ j h3];rfl
theorem OwnP.sorted(hk:∀x,(enc x).length=k)(k0:0<k){g cap nn:Nat}{cur:Array Value}{os:Array Obj}(hS:Sat E I (PH.one g (.cells cur e (0,0))::ms) w)(hl:l'.length=l.length)(hcm:cap<=maxLen)(hc:cap*k<=cur.size)(hn:l.length<=cap) :
  ∃m',OwnP m' e k (.slice (some ⟨g,0,none⟩) l.length cap) l.length (l'.flatMap enc)/\Sat E I (m'::ms) (sortWorldK enc k w g 0 nn l'.toArray os):=by
 have hg:=hS.own _ (.head _) g _ (PH.one_self _ _);have hlt:g<w.heap.size:=(jDa.1 hg).1;have hnew:(sortWorldK enc k w g 0 nn l'.toArray os).heap[g]?=some (.cells (putCells id 0 (Go.Sort.flatK enc k l'.toArray) cur) e (0,0)):=by
  unfold sortWorldK grow putRowK putRow mapBlock;simp only;rw[kZ (by simpa using hlt)];simp[kLb,hg,onCells]
 have hmul:l.length*k<=cur.size:=jFb (jSb k hn) hc;refine⟨PH.one g (.cells (putCells id 0 (Go.Sort.flatK enc k l'.toArray) cur) e (0,0)),⟨by rw[flatE_len hk,hl],.inr ⟨g,cap,_,rfl,rfl,hn,hcm,by simpa[putCells] using hc,?_⟩⟩,?_⟩
 . apply kEb
   intro t;by_cases ht:t<l.length*k
   . rw[kN ht,kRa,<- flatK_list hk k0 l',kRa]
     have h1:t<(Go.Sort.flatK enc k l'.toArray).size:=by rw[size_flatK];simpa[hl] using ht
     have h2:t<cur.size:=by omega
     simp only[putCells,Array.getElem?_mapIdx,jUb h2,Option.map_some,jC,kS,jLb,jAb h1,Nat.sub_zero,jUb h1,getElem!_pos (Go.Sort.flatK enc k l'.toArray) t h1];rfl
   . rw[List.getElem?_take_eq_none (by omega),jJ (by rw[flatE_len hk,hl];omega)]
 . refine hS.change ?_ rfl rfl rfl (λb hb hm=>?_) (λb u hb=>?_) (λb hb _=>?_)
   . unfold sortWorldK grow putRowK putRow mapBlock Sort.ahead
     simp
   . have hne:g≠b:=by
       rintro rfl;rw[PH.one_self] at hm;cases hm
     unfold sortWorldK grow putRowK putRow mapBlock;simp only;rw[kZ (by simpa using hb)];simp[kLb,hne]
   . obtain⟨rfl,rfl⟩:=PH.one_some hb
     exact hnew
   . unfold PH.one at hb ⊢
     split at hb
     . cases hb
     . rename_i hne;rw[jAa hne]
theorem sortWorldK_block(l0:Array α){g b mm:Nat}{os:Array Obj}{o:Obj}(hb:w.heap[b]?=some o)(hne:b≠g):(sortWorldK enc k w g 0 mm l0 os).heap[b]?=some o:=by
 have hlt:b<w.heap.size:=(jDa.1 hb).1;unfold sortWorldK grow putRowK putRow mapBlock;simp only;rw[kZ (by simpa using hlt)];simp[kLb,Ne.symm hne,hb]
theorem sortFunc_S{P:Program}{ρ:Ren}(L:SlLaysF0.n6 P ρ)(hk:∀x,(enc x).length=k)(k0:0<k)(aE:∀w,(isAgg (ρ.t 24)).run P w=.ok true w)(zE:∀w,(Go.sizeOf (ρ.t 24)).run P w=.ok k w)
  (h1:∀x,∀v∈enc x,v.oneCell'=true)(cf:α->α->Int)(hO:SWO (ltOf cf))(hT:∀x y,(ltOf cf) x y=false->(ltOf cf) y x=false->x=y)(c:Nat)(cb:Array Value)
  (eg:∀args w,(callFunc c args).run P w=.ok (.enter c args) w)(hS:Sat E I ms w)(j:Nat)(hm:ms[j]?=some m){v:Value}(hown:OwnP m e k v l.length (l.flatMap enc))(hlen:l.length<4611686018427387904)
  (hcmp:∀W:World,(∀b o,w.heap[b]?=some o->m b=none->W.heap[b]?=some o)->∀x y:α,Calls P c (#[.agg (enc x).toArray,.agg (enc y).toArray]++cb) W λe w'=>e=.returned (.int .i64 (cf x y))/\∃q os',w'=grow (W.drewN q) os') :
  Calls P (ρ.f 6) #[v,.func (.func c) #[] cb] w λe' w'=>e'=.returned (.tuple #[])/\∃m',OwnP m' e k v l.length ((l.mergeSort λx y=>!(ltOf cf) y x).flatMap enc)/\Sat E I (ms.set j m') w':=by
 rcases hown.2 with⟨rfl,h0,rfl⟩|⟨g,cap,cur,rfl,rfl,hn,hcm,hc,ht⟩
 . have hl:l=[]:=jQb h0
   subst hl;refine (AnyF.slices_SortFunc_none L none 0 (.func (.func c) #[] cb) w).mono ?_;rintro e' w' ⟨rfl,rfl⟩;refine⟨rfl,_,by simpa using hown,?_⟩;have e:ms.set j (λ_=>none)=ms:=by
    apply kEb;intro i;rw[kNb];split
    . rename_i hji
      subst hji;rw[hm];simp[(yE.1 hm).1]
    . rfl
   rw[e];exact hS
 . have h0:=hS.perm (Kd j hm)
   have hg:=h0.own _ (.head _) g _ (PH.one_self _ _);have hH:=OwnP.holds (l:=l) hk k0 hg hc hn ht;have hlays:CmpLays P c cb enc k cf g 0 l.toArray.size w:=λmm os dk hdk x y=>hcmp _ (λb o hb hb0=>sortWorldK_block dk hb (by
    rintro rfl;rw[PH.one_self] at hb0;cases hb0)) x y
   have:=AnyQ.slices_SortFunc_total L k aE zE enc hk h1 cf hO c cb g 0 cap l.toArray w eg hlays hH (jDa.1 hg).1 (by simpa using hlen) hT;refine yI (by simpa using this) ?_;rintro e' w' ⟨rfl,nn,os,rfl⟩;obtain⟨m',h2,h3⟩:=OwnP.sorted (l:=l) (l':=l.mergeSort λx y=>!(ltOf cf) y x) (os:=os) (nn:=nn) hk k0 h0 (by simp) hcm hc hn;exact⟨rfl,m',h2,h3.perm (Kl j hm)⟩
end
end
section
open Go.RowKit Go.Lib Go.Sort
section
variable{P:Program} {o:Oper} {a:Act} {w:World} {Q:Act->Prop} {ops:Array Oper} {rest:List Oper}
theorem stLoad{dst:Option Tmp}{type:TypeId}{pos:String}{after:Array Edge}{T:TypeId}{x:Operand}(h:wpStill P ops w Q (⟨dst,.load T x,type,pos,after,none⟩::rest) a):wpStill P ops w Q (⟨dst,.load T x,type,pos,after,none⟩::rest) a:=h
theorem stLookup{dst:Option Tmp}{type:TypeId}{pos:String}{after:Array Edge}{T:TypeId}{m y:Operand}{c:Bool}(h:wpStill P ops w Q (⟨dst,.lookup T m y c,type,pos,after,none⟩::rest) a):wpStill P ops w Q (⟨dst,.lookup T m y c,type,pos,after,none⟩::rest) a:=h
theorem still_val{v:Value}(hg:o.guard=none)(hr:(execOp a.eval o).run P w=.ok (.value v) w)(h:wpStill P ops w Q rest (a.put o.dst v)):wpStill P ops w Q (o::rest) a:=by
 unfold wpStill
 have:Region.wanted o (yielded ops a.tmps)=true:=by simp[Region.wanted,hg]
 rw[jAb this];unfold Oper.still;rw[hr];exact⟨rfl,h⟩
theorem stl1{p:PH}(hp:p.le (Qa w))(hg:o.guard=none){T:TypeId}{x:Operand}(ho:o.op=.load T x)(hT:Ky P T=some false){X off:Nat}{v:Value}(hx:a.eval x=.pointer (some ⟨X,off,none⟩))(hc:p.at X off=some v)
  (h:wpStill P ops w Q rest (a.put o.dst v)):wpStill P ops w Q (o::rest) a :=
 still_val hg (by
  unfold execOp;simp only[ho,hx,Sem.run_bind,run_load1 hp hT hc,Result.andThen_ok,Sem.run_pure]) h
theorem stlN{p:PH}(hp:p.le (Qa w))(hg:o.guard=none){T:TypeId}{x:Operand}(ho:o.op=.load T x)(hT:Ky P T=some true){X off:Nat}{vs:List Value}(hx:a.eval x=.pointer (some ⟨X,off,none⟩))(hc:Cells p X off vs)(hs:Kg P T=some vs.length)
  (h:wpStill P ops w Q rest (a.put o.dst (.agg vs.toArray))):wpStill P ops w Q (o::rest) a :=
 still_val hg (by
  unfold execOp;simp only[ho,hx,Sem.run_bind,run_loadN hp hT hc hs,Result.andThen_ok,Sem.run_pure]) h
theorem stk1{α:Type}[DecidableEq α]{key:α->Value}{kt et T:TypeId}{l:List (Rw α)}{clock M:Nat}{x:α}{p:PH}(hp:p.le (Qa w))(hpM:p M=some (Qj key l clock))(hk:Key P kt key)(ht:P.underlying T=some (.map kt et)){z:Value}(hz:Xh P et=some z)(hg:o.guard=none){m y:Operand}(ho:o.op=.lookup T m y false)
  (hm:a.eval m=.map (some M))(hy:a.eval y=key x){v:Value}(hq:(getR l x).getD z=v)(h:wpStill P ops w Q rest (a.put o.dst v)):wpStill P ops w Q (o::rest) a :=
 still_val hg (by
  have hM:w.heap[M]?=some (Qj key l clock):=hp M _ hpM;unfold execOp;simp only[ho,hm,hy,Sem.run_bind,run_lookup_S hk ht hz hM false,Result.andThen_ok,Sem.run_pure,jFa,jOb,hq]) h
end
theorem nan_int(x:Int)(w:World):Calls Tryz.prog 175 #[.int .i64 x] w λe w'=>e=.returned (.bool false)/\w=w':=by
 go_enter Tryz.func175,Tryz.ntmps175;go_wp2
 go_ret;exact⟨rfl,rfl⟩
theorem nan_edge(x:Int)(w:World):Calls Tryz.prog 176 #[.int .i64 x] w λe w'=>e=.returned (.bool false)/\w=w':=by
 go_enter Tryz.func176,Tryz.ntmps176;go_wp2
 go_ret;exact⟨rfl,rfl⟩
theorem cmpI_lt{x y:Int}(h:x<y):compareInt x y = -1:=by unfold compareInt;simp[h]
theorem cmpI_gt{x y:Int}(h:y<x):compareInt x y=1:=by unfold compareInt;rw[jAa (by omega)];simp[h]
theorem cmpI_eq{x y:Int}(h:x=y):compareInt x y=0:=by unfold compareInt;simp[h]
theorem cmp_int(x y:Int)(w:World):Calls Tryz.prog 170 #[.int .i64 x,.int .i64 y] w λe w'=>e=.returned (.int .i64 (compareInt x y))/\w=w':=by
 rcases kVb x y with h|h|h
 . rw[cmpI_lt h]
   go_enter Tryz.func170,Tryz.ntmps170;go_wp2_with (go_at_call 175;refine (nan_int _ _).mono ?_;rintro e w' ⟨rfl,rfl⟩)
   go_ret;exact⟨rfl,rfl⟩
 . rw[cmpI_eq h]
   subst h;go_enter Tryz.func170,Tryz.ntmps170;go_wp2_with (go_at_call 175;refine (nan_int _ _).mono ?_;rintro e w' ⟨rfl,rfl⟩)
   go_ret;exact⟨rfl,rfl⟩
 . rw[cmpI_gt h]
   have h':¬x<y:=by omega
   go_enter Tryz.func170,Tryz.ntmps170;go_wp2_with (go_at_call 175;refine (nan_int _ _).mono ?_;rintro e w' ⟨rfl,rfl⟩)
   go_ret;exact⟨rfl,rfl⟩
theorem cmp_edge(x y:Int)(w:World):Calls Tryz.prog 171 #[.int .i64 x,.int .i64 y] w λe w'=>e=.returned (.int .i64 (compareInt x y))/\w=w':=by
 rcases kVb x y with h|h|h
 . rw[cmpI_lt h]
   go_enter Tryz.func171,Tryz.ntmps171;go_wp2_with (go_at_call 176;refine (nan_edge _ _).mono ?_;rintro e w' ⟨rfl,rfl⟩)
   go_ret;exact⟨rfl,rfl⟩
 . rw[cmpI_eq h]
   subst h;go_enter Tryz.func171,Tryz.ntmps171;go_wp2_with (go_at_call 176;refine (nan_edge _ _).mono ?_;rintro e w' ⟨rfl,rfl⟩)
   go_ret;exact⟨rfl,rfl⟩
 . rw[cmpI_gt h]
   have h':¬x<y:=by omega
   go_enter Tryz.func171,Tryz.ntmps171;go_wp2_with (go_at_call 176;refine (nan_edge _ _).mono ?_;rintro e w' ⟨rfl,rfl⟩)
   go_ret;exact⟨rfl,rfl⟩
def orV(a b c:Int):Int:=if a≠0 then a else if b≠0 then b else c
theorem or_any(w:World)(X:Nat)(a b c:Int)(ha:w.cell? ⟨X,0,none⟩=some (.int .i64 a))(hb:w.cell? ⟨X,1,none⟩=some (.int .i64 b))(hc:w.cell? ⟨X,2,none⟩=some (.int .i64 c)) :
  Calls Tryz.prog 169 #[.slice (some ⟨X,0,none⟩) 3 3] w λe w'=>e=.returned (.int .i64 (orV a b c))/\w=w':=by
 unfold orV;by_cases h1:a=0
 . subst h1
   rw[jAa (by simp)];by_cases h2:b=0
   . subst h2
     rw[jAa (by simp)];by_cases h3:c=0
     . subst h3
       go_enter Tryz.func169,Tryz.ntmps169;go_wp2
       refine wp_loop_rounds 4 ?_;rw[rounds_succ];go_wp2
       rw[rounds_succ];go_wp2
       rw[rounds_succ];go_wp2
       rw[rounds_succ];go_wp2
       go_ret;exact⟨rfl,rfl⟩
     . go_enter Tryz.func169,Tryz.ntmps169
       go_wp2
       refine wp_loop_rounds 3 ?_;rw[rounds_succ];go_wp2
       rw[rounds_succ];go_wp2
       rw[rounds_succ];go_wp2
       go_ret;exact⟨rfl,rfl⟩
   . rw[jAb h2]
     go_enter Tryz.func169,Tryz.ntmps169;go_wp2
     refine wp_loop_rounds 2 ?_;rw[rounds_succ];go_wp2
     rw[rounds_succ];go_wp2
     go_ret;exact⟨rfl,rfl⟩
 . rw[jAb h1]
   go_enter Tryz.func169,Tryz.ntmps169;go_wp2
   refine wp_loop_rounds 1 ?_;rw[rounds_succ];go_wp2
   go_ret;exact⟨rfl,rfl⟩
end
section
open Go.RowKit Go.Lib Go.Sort
theorem kA_agg:Ky Tryz.prog 204=some true:=by kernel_rfl
theorem kA_sz:Kg Tryz.prog 204=some 2:=by kernel_rfl
def encE(x:Int×Int):List Value:=[.int .i64 x.1,.int .i64 x.2]
def idE(es:List En)(x:Int×Int):Int:=(findE es x.1 x.2).getD 0
def cfE(es:List En)(x y:Int×Int):Int:=orV (compareInt (idE es x) (idE es y)) (compareInt x.1 y.1) (compareInt x.2 y.2)
theorem idE_get(es:List En)(x:Int×Int):(getR (rows es) x).getD (.int .i64 0)=.int .i64 (idE es x):=by
 obtain⟨a,b⟩:=x;rw[getR_rows];unfold idE;cases findE es a b <;> rfl
theorem less_any(W:World)(Y g M:Nat)(es:List En)(c:Nat)(x y:Int×Int)(hY:(Qa W).at Y 0=some (.pointer (some ⟨g,0,none⟩)))(hT:TbIn (Qa W) g M es c) :
  Calls Tryz.prog 168 #[.agg #[.int .i64 x.1,.int .i64 x.2],.agg #[.int .i64 y.1,.int .i64 y.2],.pointer (some ⟨Y,0,none⟩)] W λe w'=>e=.returned (.int .i64 (cfE es x y))/\∃q os',w'=grow (W.drewN q) os':=by
 have h1:=idE_get es x;have h2:=idE_get es y;unfold cfE;obtain⟨x1,x2⟩:=x;obtain⟨y1,y2⟩:=y;simp only at *
 generalize idE es (x1,x2)=i at *
 generalize idE es (y1,y2)=j at *
 have hv:=hT.v;have hm:=hT.m;generalize rows es=l at *
 clear hT;generalize hr:orV (compareInt i j) (compareInt x1 y1) (compareInt x2 y2)=r;have Hr:=yH hr;have H1:=yH h1;have H2:=yH h2;have HY:=yH hY;have HV:=yH hv;have HM:=yH hm;clear hr h1 h2 hY hv hm;go_enter Tryz.func168,Tryz.ntmps168;go_wp2
 have hS:=((Sat.start W).alloc (.cells #[.int .i64 x1,.int .i64 x2] 204)).alloc (.cells #[.int .i64 y1,.int .i64 y2] 204);have gY:(Qa ((W.alloc (.cells #[.int .i64 x1,.int .i64 x2] 204)).alloc (.cells #[.int .i64 y1,.int .i64 y2] 204))).at Y 0=_:=PH.at_le hS.ile HY.out;have gV:(Qa ((W.alloc (.cells #[.int .i64 x1,.int .i64 x2] 204)).alloc (.cells #[.int .i64 y1,.int .i64 y2] 204))).at g 0=_:=PH.at_le hS.ile HV.out;have gM:(Qa ((W.alloc (.cells #[.int .i64 x1,.int .i64 x2] 204)).alloc (.cells #[.int .i64 y1,.int .i64 y2] 204))) M=_:=hS.ile _ _ HM.out;have gx:Cells (Qa ((W.alloc (.cells #[.int .i64 x1,.int .i64 x2] 204)).alloc (.cells #[.int .i64 y1,.int .i64 y2] 204))) W.heap.size 0 [.int .i64 x1,.int .i64 x2]:=(Cells.one W.heap.size #[.int .i64 x1,.int .i64 x2] 204 (0,0)).le (hS.own _ (.tail _ (.head _)));have gy:Cells (Qa ((W.alloc (.cells #[.int .i64 x1,.int .i64 x2] 204)).alloc (.cells #[.int .i64 y1,.int .i64 y2] 204))) (W.heap.size+1) 0 [.int .i64 y1,.int .i64 y2]:=by
  have:=(Cells.one (W.alloc (.cells #[.int .i64 x1,.int .i64 x2] 204)).heap.size #[.int .i64 y1,.int .i64 y2] 204 (0,0)).le (hS.own _ (.head _));have e:(W.alloc (.cells #[.int .i64 x1,.int .i64 x2] 204)).heap.size=W.heap.size+1:=by simp
  rw[e] at this;exact this
 have hw:((W.alloc (.cells #[.int .i64 x1,.int .i64 x2] 204)).alloc (.cells #[.int .i64 y1,.int .i64 y2] 204))=grow W #[.cells #[.int .i64 x1,.int .i64 x2] 204,.cells #[.int .i64 y1,.int .i64 y2] 204]:=by
  rw[alloc_eq_grow,alloc_eq_grow,grow_grow];rfl
 clear hS;generalize ((W.alloc (.cells #[.int .i64 x1,.int .i64 x2] 204)).alloc (.cells #[.int .i64 y1,.int .i64 y2] 204))=w at *
 have x0:(Qa w).at W.heap.size 0=some (.int .i64 x1):=gx 0 _ rfl;have x1':(Qa w).at W.heap.size 1=some (.int .i64 x2):=gx 1 _ rfl;have y0:(Qa w).at (W.heap.size+1) 0=some (.int .i64 y1):=gy 0 _ rfl;have y1':(Qa w).at (W.heap.size+1) 1=some (.int .i64 y2):=gy 1 _ rfl;have GY:=yH gY;have GV:=yH gV;have GM:=yH gM;have Gx:=yH gx;have Gy:=yH gy;have X0:=yH x0;have X1:=yH x1';have Y0:=yH y0;have Y1:=yH y1';have Hw:=yH hw;clear gY gV gM gx gy x0 x1' y0 y1' hw;refine wp_region_still_tail 23 (by kernel_rfl) (by kernel_rfl) ?_;simp only[List.take_succ_cons,List.take_zero,kOa,qDa]
 repeat (first
  | ((with_reducible refine stLoad ?_);first
      | (refine stl1 (v:=_) (p:=Qa w) (PH.le.refl _) rfl rfl ty_agg180 rfl GY.out ?_;refine aM ?_)
      | (refine stl1 (v:=_) (p:=Qa w) (PH.le.refl _) rfl rfl ty_agg217 rfl GV.out ?_;refine aM ?_)
      | (refine stlN (vs:=_) (p:=Qa w) (PH.le.refl _) rfl rfl kA_agg rfl Gx.out kA_sz ?_;refine aM ?_)
      | (refine stlN (vs:=_) (p:=Qa w) (PH.le.refl _) rfl rfl kA_agg rfl Gy.out kA_sz ?_;refine aM ?_)
      | (refine stl1 (v:=_) (p:=Qa w) (PH.le.refl _) rfl rfl Yi rfl X0.out ?_;refine aM ?_)
      | (refine stl1 (v:=_) (p:=Qa w) (PH.le.refl _) rfl rfl Yi rfl X1.out ?_;refine aM ?_)
      | (refine stl1 (v:=_) (p:=Qa w) (PH.le.refl _) rfl rfl Yi rfl Y0.out ?_;refine aM ?_)
      | (refine stl1 (v:=_) (p:=Qa w) (PH.le.refl _) rfl rfl Yi rfl Y1.out ?_;refine aM ?_))
  | ((with_reducible refine stLookup ?_);first
      | (refine stk1 (x:=(x1,x2)) (p:=Qa w) (PH.le.refl _) GM.out kE Tryz.underlying217 ty_z3 rfl rfl rfl rfl H1.out ?_;refine aM ?_)
      | (refine stk1 (x:=(y1,y2)) (p:=Qa w) (PH.le.refl _) GM.out kE Tryz.underlying217 ty_z3 rfl rfl rfl rfl H2.out ?_;refine aM ?_))
  | still_call ((cmp_int _ _ _).mono λ_ _ h=>⟨h.1,h.2.symm⟩)
  | still_call ((cmp_edge _ _ _).mono λ_ _ h=>⟨h.1,h.2.symm⟩)
  | still_step)
 refine wpStill_nil ?_;go_wp2_with (go_at_call 169;refine Held_.in_ ?_)
 refine Held_.out ?_;refine (or_any _ _ (compareInt i j) (compareInt x1 y1) (compareInt x2 y2) ?ha ?hb ?hc).mono ?_
 case ha=>go_simp
 case hb=>go_simp
 case hc=>go_simp
 rintro e w' ⟨rfl,rfl⟩;go_wp2
 go_ret;have hr:=Hr.out;have hw:=Hw.out;clear Hr Hw;subst hr hw;refine⟨rfl,1,#[.cells #[.int .i64 x1,.int .i64 x2] 204,.cells #[.int .i64 y1,.int .i64 y2] 204] ++ #[.cells #[.int .i64 (compareInt i j),.int .i64 (compareInt x1 y1),.int .i64 (compareInt x2 y2)] 3],?_⟩;rw[alloc_eq_grow,grow_grow];rfl
end
section
open Go.RowKit Go.Lib Go.Sort
theorem cf_lt(es:List En)(x y:Int×Int):ltOf (cfE es) x y=decide (idE es x<idE es y\/idE es x=idE es y/\(x.1<y.1\/x.1=y.1/\x.2<y.2)):=by
 unfold ltOf cfE orV compareInt;refine decide_eq_decide.2 ?_;generalize idE es x=i;generalize idE es y=j;obtain⟨a,b⟩:=x;obtain⟨c,d⟩:=y;simp only;rcases kVb i j with h|h|h
 . simp[h]
 . subst h
   rcases kVb a c with h|h|h
   . simp[h]
   . subst h
     rcases kVb b d with h|h|h
     . simp[h]
     . subst h;simp
     . have h':¬b<d:=by omega
       simp[h,h']
   . have h':¬a<c:=by omega
     have h'':¬a=c:=by omega
     simp[h,h',h'']
 . have h':¬i<j:=by omega
   have h'':¬i=j:=by omega
   simp[h,h',h'']
theorem cf_swo(es:List En):SWO (ltOf (cfE es)) where
 irrefl x:=by rw[cf_lt];simp
 trans x y z h1 h2:=by rw[cf_lt] at *;simp only[jPa] at *;omega
 ntrans x y z h1 h2:=by rw[cf_lt] at *;simp only[jD] at *;omega
theorem cf_tot(es:List En)(x y:Int×Int)(h1:ltOf (cfE es) x y=false)(h2:ltOf (cfE es) y x=false):x=y:=by
 rw[cf_lt] at h1 h2;simp only[jD] at h1 h2
 have:x.1=y.1/\x.2=y.2:=by omega
 exact Prod.ext this.1 this.2
def En.key(e:En):Int×Int:=(e.lo,e.hi)
def srtE(es:List En):List (Int×Int):=(es.map En.key).mergeSort λx y=>!(ltOf (cfE es)) y x
theorem srt_perm{es:List En}{l:List (Int×Int)}(h:l.Perm (es.map En.key)):(l.mergeSort λx y=>!(ltOf (cfE es)) y x)=srtE es:=by
 unfold srtE;have sorted:∀l:List (Int×Int),(l.mergeSort λx y=>!(ltOf (cfE es)) y x).Pairwise λx y=>(!(ltOf (cfE es)) y x)=true:=λl =>
  List.pairwise_mergeSort (λa b c h1 h2=>by
   simp only[kNa] at *
   exact (cf_swo es).ntrans _ _ _ h2 h1) (λa b=>by
   cases hab:ltOf (cfE es) b a with
   | false=>rfl
   | true =>
     cases hba:ltOf (cfE es) a b with
     | false=>rfl
     | true =>
       have:=(cf_swo es).trans _ _ _ hab hba;rw[(cf_swo es).irrefl] at this;cases this) l
 refine List.Perm.eq_of_pairwise (le:=λx y=>(!(ltOf (cfE es)) y x)=true) (λa b _ _ h1 h2=>?_) (sorted l) (sorted _) (((List.mergeSort_perm _ _).trans h).trans (List.mergeSort_perm _ _).symm);simp only[kNa] at h1 h2;exact cf_tot es a b h2 h1
theorem srt_len(es:List En):(srtE es).length=es.length:=by unfold srtE;simp
theorem encE_len(x:Int×Int):(encE x).length=2:=rfl
theorem encE_one(x:Int×Int):∀v∈encE x,v.oneCell'=true:=by
 intro v hv;simp[encE] at hv
 rcases hv with rfl|rfl <;> rfl
end
section
open Go.ChangeShapes Go.WideShapes Go.ChangeAt Go.RowKit Go.Lib Go.Sort
attribute [local go_sem] Oper.semAt_some
theorem kinfo:(Tryz.prog.info? 204).map (λi=>(i.zero,i.size,i.bytes))=some (some (.agg #[.int .i64 0,.int .i64 0]),2,16):=by kernel_rfl
def slLen:Value->Nat
 | .slice _ n _=>n
 | _=>0
def encY(es:List En)(k:Int×Int):Array Value := #[ekey k,.int .i64 (idE es k)]
theorem rows_perm_key{done:List (Rw (Int×Int))}{es:List En}(h:done.Perm (rows es)):(done.map (·.k)).Perm (es.map En.key):=by
 have:=h.map (·.k);unfold rows at this;rw[jXa] at this;exact this
theorem ownFrom_b{β:Type}{B:Nat}{J:β->World->Prop}(h:OwnFrom B J){s:β}{W W':World}(hj:J s W)(hb:Below W.heap.size W W'):J s W' :=
 h s W W' none hj ⟨hb.os,hb.tape,hb.output,hb.size,λk hk _=>hb.block k hk⟩ (λr e=>by cases e)
theorem PH.at_obj{p:PH}{X off:Nat}{v:Value}(h:p.at X off=some v):∃o,p X=some o/\∀q:PH,q X=some o->q.at X off=some v:=by
 unfold PH.at at h;cases hp:p X with
 | none=>rw[hp] at h;cases h
 | some o =>
   rw[hp] at h;exact⟨o,rfl,λq hq=>by unfold PH.at;rw[hq];exact h⟩
theorem each1_iterA(w:World)(Y g M:Nat)(es:List En)(c:Nat)(hok:MapOk (rows es) c)(hlen:es.length<=1000000)(hYa:(Qa w).at Y 0=some (.pointer (some ⟨g,0,none⟩)))(hga:(Qa w).at g 0=some (.map (some M)))(hM:w.heap[M]?=some (Qj ekey (rows es) c)) :
  Iter Tryz.prog 166 #[.pointer (some ⟨Y,0,none⟩)] (encY es) (λb=>b=Y\/b=g\/b=M) (srtE es) w:=by
 intro l J Jx W hk hJ hJx hYl h0;obtain⟨oY,hY,aY⟩:=PH.at_obj hYa;obtain⟨og,hg,ag⟩:=PH.at_obj hga;have hY':=(hk.2 _ (.inl rfl)).trans hY;have hg':=(hk.2 _ (.inr (.inl rfl))).trans hg;have hM':=(hk.2 _ (.inr (.inr rfl))).trans hM;have iY:(Qa W).at Y 0=some (.pointer (some ⟨g,0,none⟩)):=aY _ hY';have HaY:=yH aY;have Hag:=yH ag;clear aY ag hYa hga;have iT:TbIn (Qa W) g M es c:=⟨Hag.out _ hg',hM'⟩;have IV:=iT.v;have IM:=yH iT.m;have IT:=yH iT;have HYl:=yH hYl;have H0:=yH h0;have HJ:=yH hJ;have HJx:=yH hJx;have Hok:=yH hok;have HY:=yH hY';have Hg:=yH hg';have HM:=yH hM';have Hlen:=yH hlen;clear hY hg hM hY' hg' hM' iT hYl h0 hJ hJx hok hk hlen;have hS:=Sat.start W;refine callsIn_of_wp Tryz.func166 rfl trivial ?_ rfl;simp only[Tryz.ntmps166,jS,yB,yC,Nat.reduceAdd,Nat.reduceSub,kDb,Array.replicate_zero,kK,kF,List.nil_append,List.cons_append];refine wpIn_wide.2 ?_;go_wp2_with (first|((with_reducible refine isRange ?_);refine rgM hS (.inl (PH.le.refl _)) IM.out Tryz.underlying217 rfl rfl rfl ?_;clear hS;intro R w hS;refine aM ?_)|(refine aL ?_))
 go_loopw [3] (λv3 wr=>∃(done left:List (Rw (Int×Int))) (m:PH),(done++left).Perm (rows es)/\OwnP m 204 2 v3 done.length ((done.map (·.k)).flatMap encE)/\Sat W (Qa W) [m,PH.one R (Xp M c done c)] wr) (λv3 _=>es.length-slLen v3)
 case atStart=>exact⟨[],rows es,λ_=>none,kOb _,OwnP.nil _ _,hS.empty⟩
 case round =>
  obtain⟨done,left,m,hperm,hO,hS⟩:=hrel;have hlr:(rows es).length=es.length:=by simp[rows]
  have hpl:=hperm.length_eq;rw[yG,hlr] at hpl;have hdl:done.length<=1000000:=by have:=Hlen.out;omega
  obtain⟨A3,c3,rfl,hc3⟩:=hO.shape;have Hperm:=yH hperm;have Hpl:=yH hpl;clear hlr hpl hperm hc3;have d0:(0:Int)<=(done.length:Int):=by omega
  have d1:(done.length:Int)<=1000000:=by omega
  go_wp2_with (first|((with_reducible refine isNext ?_);refine nxM hS 1 rfl (.inl (PH.le.refl _)) IM.out Hok.out Hperm.out rfl rfl rfl (λhleft=>?_) (λr left' w2 hlp hrl hS2=>?_) <;> (try (simp only[zF,zG] at hS2;clear hS;have hS:=hS2;clear hS2)) <;> (try simp only[ekey]) <;> (try simp only[Act.put,zE,zF,zG]))|((with_reducible refine isEntry ?_);refine enM hS (.inr (.tail _ (.head _))) (PH.one_self _ _) (.inl (PH.le.refl _)) IM.out Hok.out hrl rfl rfl rfl ?_;(try simp only[ekey]);refine aM ?_)|(at_builtin;(refine' apP (p:=_) (m:=_) (v:=_) (n:=_) (xs:=_) (news:=_) 2 (.inr (List.Mem.head _)) hS rfl rfl rfl Tryz.underlying238 kinfo rfl (by decide) rfl ?hown rfl ?hl ?hcl ?h1 ?h63 ?hby ?_);(case hown=>assumption);(case hcl=>exact Cells.one _ _ _ _);(case hl=>rfl);(case h1=>rfl);(case h63=>go_light;unfold maxLen;omega);(case hby=>go_light;omega);clear hS hO;intro v1 m1 w hO hS;(try simp only[zF,zG] at hS);(try simp only[Act.put,zE,zF,zG]))|((with_reducible refine Qu ?_);first|((with_reducible refine Qe ?_);( (refine ldN 0 hS rfl rfl ?ha rfl rfl ?hb ?_;(case ha=>exact ty_agg204);(case hb=>exact ty_sz204)) );(try simp only[Act.put,zE,zF,zG]))|((with_reducible refine Xa ?_);( (refine stN 0 hS rfl rfl rfl rfl rfl ?ha rfl rfl ?_;(case ha=>exact ty_sz204)) );clear hS;intro w hS;(try simp only[zG,Act.eval,zD,zC,zA,zB,zJ,Value.cells] at hS);(try simp only[Act.put]))|((with_reducible refine isAlloc ?_);(refine' al (z:=_) hS rfl rfl ?ha ?_);(case ha =>  exact ty_z204);clear hS;intro X w hS;(try simp only[Value.cells] at hS);(try simp only[Act.put,zE,zF,zG]))|((with_reducible refine Kz ?_);(refine' bsl hS ?hr ?_);(case hr=>(intro w0;go_simp;rfl));clear hS;intro XS w hS;(try simp only[Act.put,zE,zF,zG]))))
  rotate_left
  . rename_i hO
    refine⟨⟨done++[r],left',_,?_,by simpa[encE] using hO,hS.drop.drop⟩,?_⟩
    . have h1:=(List.Perm.append_left done hlp).symm
      rw[jE];exact h1.trans Hperm.out
    . obtain⟨A4,c4,rfl,_⟩:=hO.shape
      have:=Hpl.out;have h2:=hlp.length_eq;simp only[yB] at h2;simp only[slLen];omega
  . subst hleft
    have hp0:=Hperm.out;rw[jZb] at hp0;have hkeys:=rows_perm_key hp0;have hkl:(done.map (·.k)).length=done.length:=by simp
    have hs1:=srt_perm (es:=es) hkeys;have hcmp:∀W':World,(∀b o,wr.heap[b]?=some o->m b=none->W'.heap[b]?=some o)->∀x y:Int×Int,Calls Tryz.prog 168 (#[.agg (encE x).toArray,.agg (encE y).toArray] ++ #[.pointer (some ⟨Y,0,none⟩)]) W' λe w'=>e=.returned (.int .i64 (cfE es x y))/\∃q os',w'=grow (W'.drewN q) os':=by
     intro W' hW' x y;have key:∀b o,W.heap[b]?=some o->W'.heap[b]?=some o:=λb o hb=>by
      refine hW' b o (hS.imm b o hb) ?_;rcases hS.sep m (.head _) b with h|h
      . exact h
      . rw[show Qa W b=W.heap[b]? from rfl,hb] at h;cases h
     have key2:(Qa W).le (Qa W'):=λb o hb=>key b o hb
     exact less_any W' Y g M es c x y (PH.at_le key2 iY) (IT.out.le key2)
    have hO':OwnP m 204 2 (.slice A3 done.length c3) (done.map (·.k)).length ((done.map (·.k)).flatMap encE):=by rw[hkl];exact hO
    have hsort:=sortFunc_S (ρ:=Tryz.sortE_ren) Tryz.sortE encE_len (by omega) Tryz.isAgg204 Tryz.sizeOf204 encE_one (cfE es) (cf_swo es) (cf_tot es) 168 #[.pointer (some ⟨Y,0,none⟩)]
     (enters_of Tryz.func168 (by kernel_rfl) rfl) hS 0 rfl hO' (by rw[hkl];omega) hcmp
    rw[hs1] at hsort;have hlen2:done.length=es.length:=by have:=Hpl.out;simpa using this
    rw[hkl,hlen2] at hsort;rw[hlen2];change Calls Tryz.prog 167 _ _ _ at hsort
    refine hsort.mono ?_;rintro e w1 ⟨rfl,m2,hO2,hS2⟩;simp only[zG] at hS2;have hm2:∀b,m2 b≠none->W.heap.size<=b/\b<w1.heap.size:=λb hb=>by
     obtain⟨o,ho⟩:=Option.ne_none_iff_exists'.1 hb;refine⟨?_,hS2.lt (.head _) ho⟩;rcases hS2.sep m2 (.head _) b with h|h
     . exact absurd h hb
     . rcases jYb b W.heap.size with hlt|hge
       . rw[show Qa W b=W.heap[b]? from rfl,jUb hlt] at h;cases h
       . exact hge
    have hKl:∀b,(b=Y\/b=g\/b=M)->b<W.heap.size:=λb hb=>by
     rcases hb with rfl|rfl|rfl
     . exact (jDa.1 HY.out).1
     . exact (jDa.1 Hg.out).1
     . exact (jDa.1 HM.out).1
    have hb1:Below W.heap.size W w1:=hS2.end_ (PH.le.refl _);generalize hSdef:(λb=>(b=Y\/b=g\/b=M)\/m2 b≠none)=S;have hSiff:∀b,S b↔((b=Y\/b=g\/b=M)\/m2 b≠none):=λb=>by rw[<- hSdef]
    have hSl:∀b,S b->b<w1.heap.size:=λb hb=>by
     rcases (hSiff b).1 hb with h|h
     . have:=hKl b h;have:=hb1.size;omega
     . exact (hm2 b h).2
    have hst:Stays (λb=>b=Y\/b=g\/b=M) S W w1:=⟨λb hb=>(hSiff b).2 (.inl hb),λb hb=>((hSiff b).1 hb).imp_right (hm2 b)⟩;have hj1:=H0.out S w1 hb1 hst;have hkeep:∀wr,Keeps S w1 wr->(Qa wr).at Y 0=some (.pointer (some ⟨g,0,none⟩))/\TbIn (Qa wr) g M es c/\m2.le (Qa wr):=λwr hk=>by
     have h1:∀b o,(b=Y\/b=g\/b=M)->Qa W b=some o->Qa wr b=some o:=λb o hb ho=>by
      show wr.heap[b]?=some o
      rw[hk.2 b ((hSiff b).2 (.inl hb)),hb1.block b (hKl b hb)];exact ho
     refine⟨?_,⟨?_,h1 M _ (.inr (.inr rfl)) IT.out.m⟩,λb o hb=>?_⟩
     . exact HaY.out _ (h1 Y _ (.inl rfl) HY.out)
     . exact Hag.out _ (h1 g _ (.inr (.inl rfl)) Hg.out)
     . show wr.heap[b]?=some o
       rw[hk.2 b ((hSiff b).2 (.inr (by rw[hb];simp)))];exact hS2.own m2 (.head _) b o hb
    have Hkeep:=yH hkeep;have Hst:=yH hst;have HSl:=yH hSl;have Hj1:=yH hj1;have Hb1:=yH hb1;have HO2:=yH hO2;have hsl:=srt_len es;generalize hsrt:srtE es=srt at *
    have hn0:(0:Int)<=(es.length:Int):=by omega
    have hn1:(es.length:Int)<=1000000:=by have:=Hlen.out;omega
    generalize hnn:es.length=n at *
    have Hsl:=yH hsl;have Hnn:=yH hnn;have Hsrt:=yH hsrt;have Hcg:=yH hcmp;clear hS2 hm2 hKl hSdef hSiff hSl hst hkeep hj1 hb1 hO2 hsl hnn hsrt hcmp hsort hlen2 hO' hs1 hkl hkeys hp0 hS hO iY IV hdl Hperm Hpl d0 d1;go_wp2
    go_loopw [27] (λv27 wr=>∃k:Nat,k<=n/\v27=.int .i64 (k:Int)/\J S (srt.take k) wr/\Keeps S w1 wr/\W.heap.size<=wr.heap.size) (λv27 _=>n-(intOf v27).toNat)
    case atStart=>exact⟨0,jC _,rfl,Hj1.out,Keeps.refl _ _,Hb1.out.size⟩
    case round =>
     obtain⟨k,hkn,rfl,hj,hkp,hwz⟩:=hrel;have k0:(0:Int)<=(k:Int):=by omega
     by_cases hlt:k<n
     . obtain⟨rY,rT,rm⟩:=Hkeep.out _ hkp
       have hn2:0<n:=by omega
       obtain⟨g2,hA,hcs⟩:=HO2.out.cells hn2;subst hA;have hx:k<srt.length:=by rw[Hsl.out];exact hlt
       have hdrop:srt=srt.take k++srt[k]::srt.drop (k+1):=by
        rw[<- jL hx,kGa]
       have htake:srt.take (k+1)=srt.take k++[srt[k]]:=List.take_succ_eq_append_getElem hx;have hcell:Cells (Qa wr) g2 (0+k*2) (encE srt[k]):=by
        have h1:=(hcs.le rm).part (k*2) 2;have h2:((srt.flatMap encE).drop (k*2)).take 2=encE srt[k]:=by
         have e1:(srt.flatMap encE).drop (k*2)=encE srt[k]++(srt.drop (k+1)).flatMap encE:=by
          conv=>lhs;rw[hdrop]
          rw[jNb,jMb,List.drop_append_of_le_length,kAb,List.nil_append]
          . rw[flatE_len encE_len,jSa];have:=jSb 2 (Nat.min_le_left k srt.length);omega
          . rw[flatE_len encE_len,jSa,kCa (by omega)];omega
         rw[e1,kGb (by rw[encE_len];exact jBb _),jK (by rw[encE_len];exact jBb _)]
        rw[h2] at h1;exact h1
       have hid:=idE_get es srt[k];have hxx:srt[k]=(srt[k].1,srt[k].2):=rfl;generalize srt[k]=x at *
       obtain⟨x1,x2⟩:=x;have Hdrop:=yH hdrop;have Htake:=yH htake;have Hcell:=yH hcell;have Hid_:=yH hid;have Hj:=yH hj;have Hkp:=yH hkp;have Hwz:=yH hwz;have HrY:=yH rY;have HrT:=yH rT;clear hdrop htake hcell hid hxx hj hkp hwz rY rT rm hcs hx;have hS:=Sat.start wr;unfold encE at *
       have hc0:=Hcell.out;rw[jLb] at hc0;go_wp2_with (first|(refine aN 6 ?_;clear hS;intro X6 w hS)|(refine aL ?_)|(refine aS ?_;clear hS;intro w hS))
       have hbb:Below wr.heap.size wr w.drew:=hS.drew.end_ (PH.le.refl _);have hjd:=ownFrom_b (HJ.out S) Hj.out hbb;obtain⟨fn,tmps,assign,body,hy,hR⟩:=YieldAt.wide 0 (HYl.out S (srt.take k) (x1,x2) (srt.drop (k+1)) w.drew Hdrop.out hjd);have gY:(Qa w).at Y 0=_:=PH.at_le hS.ile HrY.out;have gT:=HrT.out.le hS.ile;have gx:Cells (Qa w) X6 0 [.int .i64 x1,.int .i64 x2]:=(Cells.one X6 #[.int .i64 x1,.int .i64 x2] 204 (0,0)).le (hS.own _ (.head _));have GY:=yH gY;have GV:=yH gT.v;have GM:=yH gT.m;have Gx:=yH gx;have hi:=Hid_.out
       dsimp only[encY,ekey] at hy
       generalize idE es (x1,x2)=iv at *
       have Hi:=yH hi;have HR:=yH hR;have Hbb:=yH hbb;clear hbb hjd hR gY gT gx hi Hid_ hc0;refine (wpIn_wide (n:=0)).1 ?_;refine wide_tail 8 (by kernel_rfl) (by kernel_rfl) ?_;simp only[List.take_succ_cons,List.take_zero,kOa,qDa]
       repeat (first
        | ((with_reducible refine stLoad ?_);first
            | (refine stl1 (v:=_) (p:=Qa w) (PH.le.refl _) rfl rfl ty_agg180 rfl GY.out ?_;refine aM ?_)
            | (refine stl1 (v:=_) (p:=Qa w) (PH.le.refl _) rfl rfl ty_agg217 rfl GV.out ?_;refine aM ?_)
            | (refine stlN (vs:=_) (p:=Qa w) (PH.le.refl _) rfl rfl kA_agg rfl Gx.out kA_sz ?_;refine aM ?_))
        | ((with_reducible refine stLookup ?_);first
            | (refine stk1 (x:=(x1,x2)) (p:=Qa w) (PH.le.refl _) GM.out kE Tryz.underlying217 ty_z3 rfl rfl rfl rfl Hi.out ?_;refine aM ?_))
        | still_step)
       refine wpStill_nil ?_
       gi_wp2
       refine⟨rfl,?_⟩;refine HR.out.mono ?_;clear HR hy;rintro e W3 (⟨rfl,hJ3,hk3⟩|⟨rfl,hJx3,hk3⟩)
       . have Hz:=yH (jFb (jFb Hwz.out Hbb.out.size) hk3.1)
         have Hk3:=yH ((Hkp.out.trans (Keeps.of_below Hbb.out (λb hb=>jZa (HSl.out b hb) Hkp.out.1))).trans hk3);have HJ3:=yH hJ3;clear hJ3 hk3
         gi_wp2
         go_wp2
         refine⟨⟨k+1,by omega,by go_num,?_,Hk3.out,Hz.out⟩,by simp[intOf];omega⟩;rw[Htake.out];exact HJ3.out
       . have HJx3:=yH hJx3
         have Hz:=yH (jFb (jFb Hwz.out Hbb.out.size) hk3.1);have Hk3:=yH ((Hkp.out.trans (Keeps.of_below Hbb.out (λb hb=>jZa (HSl.out b hb) Hkp.out.1))).trans hk3);clear hJx3 hk3
         gi_wp2
         go_wp2
         refine bodyPost_ret (results_none rfl _ _ _) rfl ?_;refine⟨⟨_,rfl⟩,S,⟨Hst.out.1,λb hb=>(Hst.out.2 b hb).imp_right λh=>⟨h.1,by have:=Hk3.out.1;omega⟩⟩,.inr ⟨_,⟨srt.drop (k+1),?_⟩,HJx3.out⟩⟩;rw[jE];rw[Hsrt.out];exact Hdrop.out.symm
     . obtain rfl:k=n:=by omega
       have Hj:=yH hj;have Hkp:=yH hkp;clear hj hkp hwz;go_wp2
       go_end0
       refine⟨⟨_,rfl⟩,S,?_,.inl ?_⟩
       . exact⟨Hst.out.1,λb hb=>(Hst.out.2 b hb).imp_right λh=>⟨h.1,by have:=Hkp.out.1;omega⟩⟩
       . have:=Hj.out
         rw[jK (by rw[Hsl.out];exact jBb _)] at this;rw[Hsrt.out];exact this
end
end Go.Proofs.YtidamcdklgfogaaGreat
