import Derived.Test.YtidamcdklgfogaaGreatUbf
import Derived.Lib.AppendStr
import Derived.Lib.UnsafeStr
import Derived.Lib.Builder
set_option linter.unusedVariables false
set_option linter.unusedSimpArgs false
set_option maxRecDepth 100000
set_option maxHeartbeats 4000000
namespace Go.Proofs.YtidamcdklgfogaaGreat
section
open Go.RowKit
section
variable{E w w':World} {I m:PH} {ms:List PH} {e:TypeId} {size n:Nat} {v:Value} {xs:List Value}
theorem OwnP.of_own2(h:OwnP m e size v n xs)(hS:Sat E I (m::ms) w){v':Value}{n':Nat}{ys:List Value}(ho:Own w' 0 e size v' n' ys)(hg:w.grownBy w' v.ownBlock)
  (hv:∀g,v'.ownBlock=some g->v'.ownBlock=v.ownBlock\/w.heap.size<=g):∃m',OwnP m' e size v' n' ys/\Sat E I (m'::ms) w':=by
 have hblk:∀b,m b=none->b<w.heap.size->some b≠v.ownBlock:=λb hb _ he=>by
  rcases h.2 with⟨rfl,_⟩|⟨g,cap,cur,rfl,rfl,_⟩
  . cases he
  . simp only[Value.ownBlock,jEa] at he
    subst he;rw[PH.one_self] at hb;cases hb
 have keep:∀b,b<w.heap.size->m b=none->w'.heap[b]?=w.heap[b]?:=λb hb h0=>hg.block b hb (hblk b h0 hb)
 rcases ho.2 with⟨rfl,rfl⟩|⟨g,cap,cur,rfl,_,hh,hc⟩
 . exact⟨λ_=>none,⟨ho.1,.inl ⟨rfl,rfl,rfl⟩⟩,hS.change hg.size hg.os hg.tape hg.output keep (λb o hb=>by cases hb) (λb _ _=>rfl)⟩
 . refine⟨PH.one g (.cells cur e (0,0)),⟨ho.1,.inr ⟨g,cap,cur,rfl,rfl,hc⟩⟩,hS.change hg.size hg.os hg.tape hg.output keep (λb o hb=>?_) (λb hb hlt=>?_)⟩
   . obtain⟨rfl,rfl⟩:=PH.one_some hb
     exact hh
   . unfold PH.one
     rw[jAa];rintro rfl;rcases hv b rfl with h1|h1
     . exact hblk b hb hlt h1
     . omega
end
section
variable{P:Program} {w E:World} {I m:PH} {ms:List PH}
theorem run_append_OwnS(t u ty e:TypeId)(i:TypeInfo)(ht:P.underlying t=some (.slice e))(hu:P.underlying u=some .string)(hi:P.info? e=some i)(hz:i.zero=some (.int .u8 0))(hsize:i.size=1)(hby:i.bytes=1)
  (v:Value)(n:Nat)(xs:List Value)(hown:Own w 0 e 1 v n xs)(s:ByteArray)(h63:n+s.size<=maxLen)(hbytes:n+s.size<=140737488355328) :
  ∃v' w',(Builtin.append_ #[t,u] ty #[v,.string s]).run P w=.ok v' w'/\Own w' 0 e 1 v' (n+s.size) (xs++Lib.strCells s)/\w.grownBy w' v.ownBlock/\∀g,v'.ownBlock=some g->v'.ownBlock=v.ownBlock\/w.heap.size<=g:=by
 have hxl:xs.length=n:=by simpa using hown.1
 have hlen:(xs++Lib.strCells s).length=(n+s.size)*1:=by rw[yG,hxl,Lib.strCells_length,jG]
 rcases hown.2 with⟨rfl,rfl⟩|⟨g,cap,cur,rfl,_,hg,hnc,hcm,hcs,htake⟩
 . have hx:xs=[]:=jQb hxl
   subst hx;obtain⟨v',w',hr,h2,h3,_⟩:=Lib.run_append_own_string (P:=P) w w.heap.size t u ty e i ht hu hi hz hsize hby _ 0 [] (World.ownsRow_nil w _ e 1) s h63 hbytes (jBb _);refine⟨v',w',hr,⟨h2.1,?_⟩,h3,λg hg=>?_⟩
   . rcases h2.2 with h4|⟨g,cap,cur,h4,h5,h6,h7,h8,h9,h10⟩
     . exact .inl h4
     . exact .inr ⟨g,cap,cur,h4,jC _,h6,h7,h8,by omega,h10⟩
   . rcases h2.2 with⟨h4,_⟩|⟨g',cap,cur,h4,h5,_⟩
     . subst h4;cases hg
     . subst h4
       simp only[Value.ownBlock,jEa] at hg;subst hg;exact .inr h5
 . by_cases hroom:n+s.size<=cap
   . have hr:=Lib.run_append_room_string (P:=P) w t u ty e i ht hu hi hsize g n cap cur hg s hroom (by omega)
     refine⟨_,_,hr,⟨hlen,.inr ⟨g,cap,_,rfl,jC _,setRow_heap w g cur _ e _ hg,hroom,hcm,?_,?_⟩⟩,⟨rfl,rfl,rfl,by simp,λk _ hk=>setRow_other w g k _ (λe=>hk (by simp[Value.ownBlock,e]))⟩,λ_ _=>.inl rfl⟩
     . simp only[jS,yG,jSa,kHb,Array.length_toList,Lib.strCells_length]
       omega
     . have ht':cur.toList.take n=xs:=by simpa using htake
       rw[ht',<- hlen];exact qD
   . have hall:∀j u,xs[j]?=some u->w.cell? ((⟨g,0,none⟩:Addr).add j)=some u:=by
       intro j u hu;have hj:j<n*1:=by rw[<- hown.1];exact (yE.1 hu).1
       have h0:(⟨g,0,none⟩:Addr).add j=⟨g,j,none⟩:=by
        unfold Addr.add;by_cases h0:j=0 <;> simp[h0]
       rw[h0,cell_of_row w g j cur e (0,0) hg,<- hu,<- htake,kN hj];simp
     have hmx:n+s.size<=9223372036854775807:=by unfold maxLen at h63;omega
     have hr:=Lib.run_append_grow_string (P:=P) w t u ty e i (.int .u8 0) ht hu hi hz ⟨g,0,none⟩ n cap xs (by rw[hsize];simpa using hxl) hall s (by omega) (by omega) (by rw[hby];exact growslice_fits (by omega) (by omega));have hge:=grownCap_ge w (n+s.size) cap e;have hcm2:grownCap w (n+s.size) cap e<=maxLen:=grownCap_le_maxLen w (n+s.size) cap e h63;refine⟨_,_,hr,⟨hlen,.inr ⟨w.heap.size,_,_,rfl,jC _,heap_alloc_new w.drew _,hge,hcm2,?_,?_⟩⟩,⟨rfl,rfl,rfl,by simp,λk hk _=>heap_alloc_old w.drew _ hk⟩,λg' hg'=>.inr ?_⟩
     . have hz1:(Value.int IntKind.u8 0).cells.size=1:=rfl
       simp only[Array.size_append,jS,size_zeroCells,hz1,hxl,Lib.strCells_length];omega
     . simp only[Array.toList_append,jE]
       rw[<- jE,<- hlen];exact qD
     . simp only[Value.ownBlock,jEa] at hg'
       omega
theorem wp_apStr{o:Oper}{a:Act}{K:Act->World->Prop}{Q:Exit->Act->World->Prop}(hS:Sat E I ms w)(k:Nat)(hm:ms[k]?=some m){s x:Operand}{t u:TypeId}(ho:o.op=.call { callee:=.builtin .append,args := #[s,x],argTypes := #[t,u] })
  {e:TypeId}(ht:P.underlying t=some (.slice e))(hu:P.underlying u=some .string)(hi:(P.info? e).map (λi=>(i.zero,i.size,i.bytes))=some (some (.int .u8 0),1,1))
  {v:Value}{n:Nat}{xs:List Value}(hs:a.eval s=v)(hown:OwnP m e 1 v n xs){str:ByteArray}(hx:a.eval x=.string str)
  (h63:n+str.size<=140737488355328)
  (h:∀A' c' m' w',OwnP m' e 1 (.slice A' (n+str.size) c') (n+str.size) (xs++Lib.strCells str)->Sat E I (ms.set k m') w'->K (a.put o.dst (.slice A' (n+str.size) c')) w'):o.wp P a w K Q:=by
 obtain⟨i,hi1,hz1,hs1,hy1⟩:=info_parts hi;have h0:=hS.perm (Kd k hm);obtain⟨v',w',hr,h2,h3,h4⟩:=run_append_OwnS (P:=P) (w:=w) t u o.type e i ht hu hi1 hz1 hs1 hy1 v n xs (hown.own (h0.own _ (.head _))) str (by unfold maxLen;omega) h63;obtain⟨m',ho',hS'⟩:=hown.of_own2 h0 h2 h3 h4;unfold Oper.wp execOp;simp only[ho,resolve,invoke,builtin,Sem.run_bind,Sem.run_pure,Result.andThen_ok,kTb,jDb,jZ,hs,hx,hr];obtain⟨A',c',rfl,_⟩:=ho'.shape;exact h A' c' m' w' ho' (hS'.perm (Kl k hm))
theorem apStr{o:Oper}{a:Act}{Q:Exit->Act->World->Prop}{ops:Array Oper}{rest:List Oper}(k:Nat)(hS:Sat E I ms w)(hg:o.guard=none)(hm:ms[k]?=some m){s x:Operand}{t u:TypeId}(ho:o.op=.call { callee:=.builtin .append,args := #[s,x],argTypes := #[t,u] })
  {e:TypeId}(ht:P.underlying t=some (.slice e))(hu:P.underlying u=some .string)(hi:(P.info? e).map (λi=>(i.zero,i.size,i.bytes))=some (some (.int .u8 0),1,1))
  {v:Value}{n:Nat}{xs:List Value}(hs:a.eval s=v)(hown:OwnP m e 1 v n xs){str:ByteArray}(hx:a.eval x=.string str)
  (h63:n+str.size<=140737488355328)
  (h:∀A' c' m' w',OwnP m' e 1 (.slice A' (n+str.size) c') (n+str.size) (xs++Lib.strCells str)->Sat E I (ms.set k m') w'->wpList P ops Q rest (a.put o.dst (.slice A' (n+str.size) c')) w'):wpList P ops Q (o::rest) a w :=
 wpList_plain hg λ_ hK=>wp_apStr hS k hm ho ht hu hi hs hown hx h63 λA' c' m' w' h2 h3=>hK _ _ (h A' c' m' w' h2 h3)
theorem Sat.unsafe{g:Nat}{c:Array Value}{T:TypeId}{z:Nat×Nat}(hS:Sat E I (PH.one g (.cells c T z)::ms) w)(n:Nat):Sat E I ms (w.freeze ⟨g,0,none⟩ n):=by
 have hk:∀b,b≠g->(w.freeze ⟨g,0,none⟩ n).heap[b]?=w.heap[b]?:=λb hb=>by
  unfold World.freeze;split
  . rfl
  . simp only[kLb]
    rw[jAa (Ne.symm hb)]
 refine (hS.change (m':=λ_=>none) ?_ ?_ ?_ ?_ (λb hb h0=>?_) (λb o hb=>by cases hb) (λ_ _ _=>rfl)).drop
 . unfold World.freeze;split <;> simp
 . unfold World.freeze;split <;> rfl
 . unfold World.freeze;split <;> rfl
 . unfold World.freeze;split <;> rfl
 . refine hk b ?_
   rintro rfl;rw[PH.one_self] at h0;cases h0
end
def bcells(l:List Nat):List Value:=l.map λc:Nat=>Value.int .u8 (c:Int)
theorem bcells_str(s:ByteArray):Lib.strCells s=bcells (lst s):=by
 unfold Lib.strCells bcells lst;rw[jXa];rfl
def Bld(X:Nat)(l:List Nat)(mb mr:PH):Prop:=∃p v,mb=PH.one X (.cells #[.pointer p,v] 75)/\(p=none\/p=some ⟨X,0,none⟩)/\OwnP mr 5 1 v l.length (bcells l)
theorem byte_info:(Tryz.prog.info? 5).map (λi=>(i.zero,i.size,i.bytes))=some (some (.int .u8 0),1,1):=by kernel_rfl
end
section
open Go.RowKit
theorem ty_agg39:Ky Tryz.prog 39=some false:=by kernel_rfl
theorem Sat.shape{E w:World}{I:PH}{ms:List PH}(h:Sat E I ms w)(k:Nat){X:Nat}{c:Array Value}{T:TypeId}(hm:ms[k]?=some (PH.one X (.cells c T (0,0)))):w.shape? X=some (T,c.size):=by
 have:=h.own _ (jCb hm) X _ (PH.one_self _ _);simp[World.shape?,this]
theorem bld_info:(Tryz.prog.info? 75).map (·.size)=some 2:=by kernel_rfl
theorem bld_lies:liesAt Tryz.prog Tryz.prog.depth 75 (2/Tryz.prog.cellsOf 75) 0 75 1=true:=by kernel_rfl
theorem copyCheck_any(E:World)(I:PH)(ms:List PH)(X:Nat)(p:Option Addr)(v:Value)(w:World)(hp:p=none\/p=some ⟨X,0,none⟩)(hS:Sat E I (PH.one X (.cells #[.pointer p,v] 75)::ms) w) :
  Calls Tryz.prog 76 #[.pointer (some ⟨X,0,none⟩)] w λe w'=>e=.returned (.tuple #[])/\Sat E I (PH.one X (.cells #[.pointer (some ⟨X,0,none⟩),v] 75)::ms) w':=by
 obtain⟨j,hj,hjs⟩:=kB.1 bld_info;have hsh:=hS.shape 0 rfl;rcases hp with rfl|rfl
 . go_enter Tryz.func76,Tryz.ntmps76
   go_wp2_with (first|(refine aL ?_))
   rw[Lib.run_to_unsafe _ ⟨X,0,none⟩ Tryz.underlying73 Tryz.underlying186 hj (by rw[hjs];decide) hsh (Nat.zero_lt_succ 1)];simp only[Result.andThen];rw[Oper.upon_value];go_wp2_with (fail)
   rw[run_callFunc_extern Tryz.func118 (by kernel_rfl) (by kernel_rfl) (by kernel_rfl) (e:=Extern.AbiNoEscape.same) (by kernel_rfl)];rw[Lib.run_noEscape];simp only[Result.andThen];rw[Oper.upon_value];go_wp2_with (fail)
   rw[Lib.run_from_unsafe _ ⟨X,0,none⟩ Tryz.underlying186 Tryz.underlying73 hj hsh bld_lies];simp only[Result.andThen];rw[Oper.upon_value];go_wp2_with (first|(refine aS ?_;clear hS;intro w hS))
   go_end0
   exact⟨rfl,hS⟩
 . go_enter Tryz.func76,Tryz.ntmps76
   go_wp2_with (first|(refine aL ?_))
   rw[Lib.run_neq_ptr_same _ _ Tryz.underlying73 hj];go_wp2_with (fail)
   go_end0
   exact⟨rfl,hS⟩
theorem Yf(E:World)(I:PH)(mb mr:PH)(ms:List PH)(X:Nat)(l:List Nat)(s:ByteArray)(w:World)(hl:l.length+s.size<=1000000)(hB:Bld X l mb mr)(hS:Sat E I (mb::mr::ms) w) :
  Calls Tryz.prog 31 #[.pointer (some ⟨X,0,none⟩),.string s] w λe w'=>e=.returned (.tuple #[.int .i64 s.size,.nilIface])/\∃mb' mr',Bld X (l++lst s) mb' mr'/\Sat E I (mb'::mr'::ms) w':=by
 obtain⟨p,v,rfl,hp,hO⟩:=hB;have CC:=yH (λw'=>copyCheck_any E I (mr::ms) X p v w' hp);obtain⟨A,c,rfl,_⟩:=hO.shape;go_enter Tryz.func31,Tryz.ntmps31;go_wp2_with (first|(refine aL ?_)|(refine aS ?_;clear hS;intro w hS)|(go_at_call 76;(refine yI (CC.out _ hS) ?_);clear hS;rintro e w ⟨rfl,hS⟩)|(at_builtin;(refine' apStr (v:=_) 1 hS rfl rfl rfl Tryz.underlying39 Tryz.underlying9 byte_info rfl ?hown rfl ?h63 ?_);(case hown=>exact hO);(case h63=>go_light;omega);clear hS;intro A1 c1 m1 w hO1 hS;(try simp only[zF,zG] at hS);refine aM ?_))
 go_ret2;refine⟨rfl,_,m1,⟨_,_,rfl,.inr rfl,?_⟩,hS⟩;rw[bcells_str] at hO1;have e1:(l++lst s).length=l.length+s.size:=by rw[yG,lst_length]
 have e2:bcells (l++lst s)=bcells l++bcells (lst s):=by unfold bcells;rw[jGa]
 rw[e1,e2];exact hO1
theorem bstring_any(E:World)(I:PH)(mb mr:PH)(ms:List PH)(X:Nat)(l:List Nat)(w:World)(h0:l≠[])(hl:l.length<=1000000)(h8:∀c∈l,c<256)(hB:Bld X l mb mr)(hS:Sat E I (mb::mr::ms) w) :
  Calls Tryz.prog 33 #[.pointer (some ⟨X,0,none⟩)] w λe w'=>∃str,e=.returned (.string str)/\lst str=l/\Sat E I ms w':=by
 obtain⟨p,v,rfl,hp,hO⟩:=hB;have hn0:l.length≠0:=by simpa using h0
 rcases hO.2 with⟨rfl,hz,_⟩|⟨g,cap,cur,rfl,rfl,hnc,hcm,hcs,htake⟩
 . exact absurd hz hn0
 have hSD:∀w,(Builtin.unsafeSliceData_ #[39] 137 #[.slice (some ⟨g,0,none⟩) l.length cap]).run Tryz.prog w=.ok (.pointer (some ⟨g,0,none⟩)) w:=λw=>Lib.run_unsafeSliceData_row _ _ _ _ _ _ (by omega)
 let bl:List UInt8:=l.map Nat.toUInt8
 have hbl:bl.length=l.length:=by simp[bl]
 have hUS:∀w:World,w.heap[g]?=some (.cells cur 5 (0,0))->(Builtin.unsafeString_ #[137,3] 9 #[.pointer (some ⟨g,0,none⟩),.int .i64 l.length]).run Tryz.prog w=.ok (.string ⟨bl.toArray⟩) (w.freeze ⟨g,0,none⟩ l.length):=by
  intro w hg;rw[<- hbl];refine Lib.run_unsafeString_row w 137 3 9 5 Tryz.underlying137 (by kernel_rfl) g cur.size (by simp[World.shape?,hg]) bl (by intro h;rw[h] at hbl;exact hn0 hbl.symm) (by omega) (by omega) ?_;intro j x hx;have hj:j<l.length:=by rw[<- hbl];exact (yE.1 hx).1
  have h2:(⟨g,0,none⟩:Addr).add j=⟨g,j,none⟩:=by
   unfold Addr.add;by_cases h0:j=0 <;> simp[h0]
  have h3:w.cell? ⟨g,j,none⟩=cur[j]?:=cell_of_row w g j cur 5 (0,0) hg;have h4:cur[j]?=(bcells l)[j]?:=by
   rw[<- htake,jG,kN hj];simp
  rw[h2];show w.cell? ⟨g,j,none⟩=_
  rw[h3,h4];have hlj:=yA hj;simp only[bl,jO,hlj,Option.map_some,jEa] at hx;subst hx;have h5:=h8 _ (jWb hj);unfold bcells;rw[jO,hlj];simp only[Option.map_some,Nat.toUInt8,UInt8.toNat_ofNat'];congr 2
  omega
 have hlst:lst ⟨bl.toArray⟩=l:=by
  unfold lst;show (bl.toArray.toList).map UInt8.toNat=l
  simp only[bl,jXa];refine (jXb λc hc=>?_).trans (List.map_id l)
  have:=h8 c hc;simp only[Function.comp,Nat.toUInt8,UInt8.toNat_ofNat'];simp only[id];omega
 generalize (⟨bl.toArray⟩:ByteArray)=str at *
 clear_value bl
 clear hbl;go_enter Tryz.func33,Tryz.ntmps33;go_wp2_with fail
 refine region_ogZ (λ_ _=>False) [[],[0],[0,1],[0,1,2],[0,1,2,3],[],[5],[5,6],[5,6,7],[5,6,7,8],[0,1,2,3,4,5,6,7,8,9],[0,1,2,3,4,5,6,7,8,9,10]] E I [] _ (Facts [λv _=>v=.pointer (some ⟨X,0,none⟩),λv _=>v=.pointer (some ⟨X,0,none⟩),λv _=>v=.pointer (some ⟨X,1,none⟩),λv _=>v=.slice (some ⟨g,0,none⟩) l.length cap,λv _=>v=.pointer (some ⟨g,0,none⟩),λv _=>v=.pointer (some ⟨X,0,none⟩),λv _=>v=.pointer (some ⟨X,0,none⟩),λv _=>v=.pointer (some ⟨X,1,none⟩),λv _=>v=.slice (some ⟨g,0,none⟩) l.length cap,λv _=>v=.int .i64 (l.length:Int),λv _=>v=.string str,λv _=>v=.string str]) (λL _ _ ns=>ns=PH.one X (.cells #[.pointer p,.slice (some ⟨g,0,none⟩) l.length cap] 75)::(if L 10=true then ms else PH.one g (.cells cur 5 (0,0))::ms)) (by kernel_rfl) (by kernel_rfl) hS (by simp) ?mono ?step (λ_ _ _ _ h=>h.elim) ?fin
 case mono =>
  refine λi v I J hJ=>Facts.lasting ?_ i v I J hJ
  exact bL
 case step =>
  intro i hi L vals J ns w' hLi hdown hanc hJ hS hns;subst hns;have hi8:i=0\/i=1\/i=2\/i=3\/i=4\/i=5\/i=6\/i=7\/i=8\/i=9\/i=10\/i=11:=by simp at hi;omega
  rcases hi8 with rfl|rfl|rfl|rfl|rfl|rfl|rfl|rfl|rfl|rfl|rfl|rfl
  . simp only[Qc,Qo,Qd,zI];refine Kj (λK hK=>?_);have HK1:=yH hK;clear hK;rw[jAb (by rfl)]
    go_wp2_with fail
    refine HK1.out _ _ ⟨rfl,J,_,PH.le.refl _,hS,?_,?_⟩
    . simp only[Facts,Qk,zI,zD,zC,zA,zB,zJ]
    . simp[upd]
  . have h0:=(hanc 0 (by decide)).2
    simp only[Facts,zI] at h0;simp only[Qc,Qo,Qi,Qd,zH,zI,zB,zK,jEb,Act.put,zE,zF,zG,h0];refine Kj (λK hK=>?_);have HK1:=yH hK;clear hK;rw[jAb (by rfl)]
    go_wp2_with fail
    refine HK1.out _ _ ⟨rfl,J,_,PH.le.refl _,hS,?_,?_⟩
    . simp only[Facts,Qk,zH,zI,zD,zC,zA,zB,zJ]
    . simp[upd]
  . have h1:=(hanc 1 (by decide)).2
    simp only[Facts,zH,zI] at h1;simp only[Qc,Qo,Qi,Qd,zH,zI,zA,zB,zK,jEb,Act.put,zE,zF,zG,h1];refine Kj (λK hK=>?_);have HK1:=yH hK;clear hK;rw[jAb (by rfl)]
    go_wp2_with fail
    refine HK1.out _ _ ⟨rfl,J,_,PH.le.refl _,hS,?_,?_⟩
    . simp only[Facts,Qk,zH,zI,zD,zC,zA,zB,zJ]
    . simp[upd]
  . have h2:=(hanc 2 (by decide)).2
    simp only[Facts,zH,zI] at h2;have l10:L 10=false:=by
     cases h:L 10 with
     | false=>rfl
     | true=>have:=hdown 10 (by decide) h 3 (by decide);rw[hLi] at this;cases this
    rw[l10] at hS;simp only[jFa,jOb,List.nil_append] at hS;simp only[Qc,Qo,Qi,Qd,zH,zI,zA,zB,zK,jEb,Act.put,zE,zF,zG,h2];refine Kj (λK hK=>?_);have HK1:=yH hK;clear hK;rw[jAb (by rfl)]
    (with_reducible refine atLoad ?_)
    refine wp_ldo1 (X:=X) (c := #[.pointer p,.slice (some ⟨g,0,none⟩) l.length cap]) hS (jCb (i:=0) rfl) ty_agg39 rfl rfl ?_;refine HK1.out _ _ ⟨rfl,J,_,PH.le.refl _,hS,?_,?_⟩
    . simp only[Facts,Qk,zH,zI,Act.put,zE,zF,zG,zD,zC,zA,zB,zJ]
    . simp[upd,l10]
  . have h3:=(hanc 3 (by decide)).2
    simp only[Facts,zH,zI] at h3;have hSD:=hSD w';simp only[Qc,Qo,Qi,Qd,zH,zI,zA,zB,zK,jEb,Act.put,zE,zF,zG,h3];refine Kj (λK hK=>?_);have HK1:=yH hK;clear hK;rw[jAb (by rfl)]
    go_wp2_with fail
    refine HK1.out _ _ ⟨rfl,J,_,PH.le.refl _,hS,?_,?_⟩
    . simp only[Facts,Qk,zH,zI,zD,zC,zA,zB,zJ]
    . simp[upd]
  . simp only[Qc,Qo,Qi,Qd,zH,zI,zA,zB,zK,jEb,Act.put,zE,zF,zG];refine Kj (λK hK=>?_);have HK1:=yH hK;clear hK;rw[jAb (by rfl)]
    go_wp2_with fail
    refine HK1.out _ _ ⟨rfl,J,_,PH.le.refl _,hS,?_,?_⟩
    . simp only[Facts,Qk,zH,zI,zD,zC,zA,zB,zJ]
    . simp[upd]
  . have h5:=(hanc 5 (by decide)).2
    simp only[Facts,zH,zI] at h5;simp only[Qc,Qo,Qi,Qd,zH,zI,zA,zB,zK,jEb,Act.put,zE,zF,zG,h5];refine Kj (λK hK=>?_);have HK1:=yH hK;clear hK;rw[jAb (by rfl)]
    go_wp2_with fail
    refine HK1.out _ _ ⟨rfl,J,_,PH.le.refl _,hS,?_,?_⟩
    . simp only[Facts,Qk,zH,zI,zD,zC,zA,zB,zJ]
    . simp[upd]
  . have h6:=(hanc 6 (by decide)).2
    simp only[Facts,zH,zI] at h6;simp only[Qc,Qo,Qi,Qd,zH,zI,zA,zB,zK,jEb,Act.put,zE,zF,zG,h6];refine Kj (λK hK=>?_);have HK1:=yH hK;clear hK;rw[jAb (by rfl)]
    go_wp2_with fail
    refine HK1.out _ _ ⟨rfl,J,_,PH.le.refl _,hS,?_,?_⟩
    . simp only[Facts,Qk,zH,zI,zD,zC,zA,zB,zJ]
    . simp[upd]
  . have h7:=(hanc 7 (by decide)).2
    simp only[Facts,zH,zI] at h7;have l10:L 10=false:=by
     cases h:L 10 with
     | false=>rfl
     | true=>have:=hdown 10 (by decide) h 8 (by decide);rw[hLi] at this;cases this
    rw[l10] at hS;simp only[jFa,jOb,List.nil_append] at hS;simp only[Qc,Qo,Qi,Qd,zH,zI,zA,zB,zK,jEb,Act.put,zE,zF,zG,h7];refine Kj (λK hK=>?_);have HK1:=yH hK;clear hK;rw[jAb (by rfl)]
    (with_reducible refine atLoad ?_)
    refine wp_ldo1 (X:=X) (c := #[.pointer p,.slice (some ⟨g,0,none⟩) l.length cap]) hS (jCb (i:=0) rfl) ty_agg39 rfl rfl ?_;refine HK1.out _ _ ⟨rfl,J,_,PH.le.refl _,hS,?_,?_⟩
    . simp only[Facts,Qk,zH,zI,Act.put,zE,zF,zG,zD,zC,zA,zB,zJ]
    . simp[upd,l10]
  . have h8:=(hanc 8 (by decide)).2
    simp only[Facts,zH,zI] at h8;simp only[Qc,Qo,Qi,Qd,zH,zI,zA,zB,zK,jEb,Act.put,zE,zF,zG,h8];refine Kj (λK hK=>?_);have HK1:=yH hK;clear hK;rw[jAb (by rfl)]
    go_wp2_with fail
    refine HK1.out _ _ ⟨rfl,J,_,PH.le.refl _,hS,?_,?_⟩
    . simp only[Facts,Qk,zH,zI,zD,zC,zA,zB,zJ]
    . simp[upd]
  . have h4:=(hanc 4 (by decide)).2
    simp only[Facts,zH,zI] at h4;have h9:=(hanc 9 (by decide)).2;simp only[Facts,zH,zI] at h9;rw[hLi] at hS;simp only[jFa,jOb,List.nil_append] at hS;have hUS:=hUS w' (hS.own _ (.tail _ (.head _)) g _ (PH.one_self _ _));simp only[Qc,Qo,Qi,Qd,zH,zI,zA,zB,zK,jEb,Act.put,zE,zF,zG,h4,h9];refine Kj (λK hK=>?_);have HK1:=yH hK;clear hK;rw[jAb (by rfl)]
    go_wp2_with fail
    replace hS:Sat E J (PH.one X (.cells #[.pointer p,.slice (some ⟨g,0,none⟩) l.length cap] 75)::ms) (w'.freeze ⟨g,0,none⟩ l.length):=(hS.perm (List.Perm.swap _ _ _)).unsafe l.length;refine HK1.out _ _ ⟨rfl,J,_,PH.le.refl _,hS,?_,?_⟩
    . simp only[Facts,Qk,zH,zI,zD,zC,zA,zB,zJ]
    . simp[upd]
  . have h10:=(hanc 10 (by decide)).2
    simp only[Facts,zH,zI] at h10;simp only[Qc,Qo,Qi,Qd,zH,zI,zA,zB,zK,jEb,Act.put,zE,zF,zG,h10];refine Kj (λK hK=>?_);have HK1:=yH hK;clear hK;rw[jAb (by rfl)]
    go_wp2_with fail
    refine HK1.out _ _ ⟨rfl,J,_,PH.le.refl _,hS,?_,?_⟩
    . simp only[Facts,Qk,zH,zI,zD,zC,zA,zB,zJ]
    . simp[upd]
 case fin =>
  intro vals J ns w hJ hD hS hL;obtain⟨L,hL,rfl⟩:=hL;rw[hL 10 (by decide),jAb rfl] at hS;have hv:vals 11=.string str:=hD 11 (by decide);simp only[Qc,Qo,Qi,yB,yC,Nat.reduceAdd,zA,zB,zK,jEb,Act.put,zE,zF,zG,hv];go_wp2_with fail
  go_ret;exact⟨_,rfl,hlst,(hS.less hJ).drop⟩
end
section
open Go.RowKit
theorem lst_append(a b:ByteArray):lst (a++b)=lst a++lst b:=by
 unfold lst;rw[ByteArray.data_append,Array.toList_append,jGa]
def rowT(r:G.Rw3):List Nat:=txt r.v++[32]++txt r.lo++[32]++txt r.hi++[10]
def rootT(e:Int):List Nat:=32::txt e
def textD(rows:List G.Rw3)(roots:List Int):List Nat:=rows.flatMap rowT++[114,111,111,116,115]++roots.flatMap rootT++[10]
theorem txt_len(n:Int)(h:I64 n):(txt n).length<=20:=by
 rw[<- lst_textS,lst_length];exact textS_size n h
theorem RowFit.i64{r:G.Rw3}(h:RowFit r):I64 r.v/\I64 r.lo/\I64 r.hi:=by
 obtain⟨⟨a,b⟩,⟨c,d⟩,e,f⟩:=h;exact⟨⟨a,by omega⟩,⟨c,by omega⟩,⟨e,by omega⟩⟩
theorem flatN_len{α:Type}(f:α->List Nat)(c:Nat):∀(l:List α),(∀x∈l,(f x).length<=c)->(l.flatMap f).length<=l.length*c
 | [],_=>by simp
 | x::l,h=>by
   have h1:=flatN_len f c l λy hy=>h y (.tail _ hy)
   have h2:=h x (.head _);rw[jMb,yG,yB,kIa];omega
theorem rowT_len{r:G.Rw3}(h:RowFit r):(rowT r).length<=63:=by
 obtain⟨a,b,c⟩:=h.i64;have h1:=txt_len _ a;have h2:=txt_len _ b;have h3:=txt_len _ c;unfold rowT;simp only[yG,yB,yC];omega
def TextR(rows:List G.Rw3)(roots:List Int):List Nat:=if G.rightB rows roots then textD rows roots else []
theorem textD_lt(rows:List G.Rw3)(roots:List Int):∀c∈textD rows roots,c<256:=λc hc=>by
 unfold textD rowT rootT at hc;simp only[jH,kU,jBa,jCa,jJb] at hc;rcases hc with ((⟨r,_,((((h|h)|h)|h)|h)|h⟩|h)|⟨e,_,h|h⟩)|h
 all_goals first|exact txt_lt _ c h|omega
theorem dtext_any{W:World}{vl vr:Value}{rows:List G.Rw3}{roots:List Int}(hl:Row3o (Qa W) vl rows)(hr:IntRo (Qa W) vr roots)(hn:rows.length<1152921504606846976)(hm:roots.length<=1000)(hf:∀r∈rows,RowFit r)(hg:∀e∈roots,-9223372036854775808<=e/\e<9223372036854775808) :
  Calls Tryz.prog 8 #[vl,vr] W λe w'=>(∃str er,e=.returned (.tuple #[.string str,nv er])/\lst str=TextR rows roots/\er=(if G.rightB rows roots then 0 else 3))/\Below W.heap.size W w':=by
 have HRt:=yH (λ(w:World) (h:(Qa W).le (Qa w))=>dright_any (hl.le h) (hr.le h) hn (by omega) hf hg);obtain⟨A,c,rfl,hcl⟩:=hl;obtain⟨B,d,rfl,hcr⟩:=hr;have HCl:=yH hcl;have HCr:=yH hcr;have HF:=yH hf;have HG:=yH hg;have hS:=Sat.start W;clear hcl hcr hf hg;cases hr:G.rightB rows roots with
 | false =>
   rw[hr] at HRt;have HT:=yH (show TextR rows roots=[] by unfold TextR;rw[hr];rfl);simp only[jFa,jOb];go_enter Tryz.func8,Tryz.ntmps8;go_wp2_with ( (go_at_call 30;(with_reducible refine bB hS (HRt.out _ hS.ile) ?_);clear hS;intro w2 hS) )
   go_ret2;refine⟨⟨⟨#[]⟩,3,?_,HT.out.symm,rfl⟩,hS.end_ (PH.le.refl _)⟩;rfl
 | true =>
   rw[hr] at HRt;have HT:=yH (show TextR rows roots=textD rows roots by unfold TextR;rw[hr];rfl);simp only[jEb];obtain⟨_,h40⟩:=G.rightB_roots hr;clear hr;generalize hN:rows.length=N at *
   generalize hM:roots.length=M at *
   have HNn:=yH hN;have HMm:=yH hM;have hL1:∀i,i<=N->((rows.take i).flatMap rowT).length<=258048:=λi hi=>by
    have:=flatN_len rowT 63 (rows.take i) λx hx=>rowT_len (HF.out x (kY hx))
    rw[jSa,kCa (by omega)] at this;omega
   have HL1:=yH hL1;have hL2:∀j,j<=M->((roots.take j).flatMap rootT).length<=21000:=λj hj=>by
    have:=flatN_len rootT 21 (roots.take j) λx hx=>by
     have h:=HG.out x (kY hx)
     have:=txt_len x ⟨h.1,by omega⟩;unfold rootT;rw[yB];omega
    rw[jSa,kCa (by omega)] at this;omega
   have HL2:=yH hL2;clear hN hM hL1 hL2;go_enter Tryz.func8,Tryz.ntmps8;go_wp2_with (first|(go_at_call 30;(with_reducible refine bB hS (HRt.out _ hS.ile) ?_);clear hS;intro w2 hS)|(refine aN 6 ?_;clear hS;intro X6 w hS))
   go_loopw [17] (λv17 wr=>∃(i:Nat) (mb mr:PH),i<=N/\v17=.int .i64 (i:Int)/\Bld X6 ((rows.take i).flatMap rowT) mb mr/\Sat W (Qa W) (mb::mr::[]) wr) (λv17 _=>(N-intOf v17).toNat)
   case atStart=>exact⟨0,_,Ku,jC _,rfl,⟨none,_,rfl,.inl rfl,OwnP.nil _ _⟩,hS.empty.perm (List.Perm.swap _ _ _)⟩
   case round =>
    clear hS HRt;obtain⟨i,mb,mr,hi,rfl,hB,hS⟩:=hrel;by_cases hlt:i<N
    . obtain⟨r,hr⟩:∃r,rows[i]?=some r:=⟨_,yA (by rw[HNn.out];exact hlt)⟩
      obtain⟨Y,oY,hA,hcell⟩:=HCl.out (by omega);subst hA;have hcell:=hcell i r hr;have iN:(i:Int)<(N:Int):=by omega
      obtain⟨f1,f2,f3⟩:=(HF.out r (jCb hr)).i64;have htk:(rows.take (i+1)).flatMap rowT=(rows.take i).flatMap rowT++rowT r:=by rw[jR,hr,jNb];simp
      have hlen:=HL1.out i hi;have hlen2:=HL1.out (i+1) (by omega);rw[htk,yG] at hlen2;clear hr HCl;obtain⟨rv,lo,hi'⟩:=r;simp only at f1 f2 f3;have T1:=yH (λw:World=>text_any rv w f1);have T2:=yH (λw:World=>text_any lo w f2);have T3:=yH (λw:World=>text_any hi' w f3);have z1:=textS_size rv f1;have z2:=textS_size lo f2;have z3:=textS_size hi' f3;have y1:=lst_textS rv;have y2:=lst_textS lo;have y3:=lst_textS hi';generalize textS rv=s1 at *
      generalize textS lo=s2 at *
      generalize textS hi'=s3 at *
      obtain⟨a1,ha1⟩:∃a:ByteArray,s1++(⟨#[32]⟩:ByteArray)=a:=⟨_,rfl⟩;have n1:¬9223372036854775807<s1.size+1:=by omega
      have m1:¬9223372036854775807<(s1).size+((⟨#[32]⟩:ByteArray)).size:=n1;have q1:a1.size=s1.size+1:=by rw[<- ha1];exact kMa
      have w1:lst a1=lst s1++lst (⟨#[32]⟩:ByteArray):=by rw[<- ha1];exact lst_append _ _
      obtain⟨a2,ha2⟩:∃a:ByteArray,a1++s2=a:=⟨_,rfl⟩;have n2:¬9223372036854775807<a1.size+s2.size:=by omega
      have m2:¬9223372036854775807<(a1).size+(s2).size:=n2;have q2:a2.size=a1.size+s2.size:=by rw[<- ha2];exact kMa
      have w2:lst a2=lst a1++lst s2:=by rw[<- ha2];exact lst_append _ _
      obtain⟨a3,ha3⟩:∃a:ByteArray,a2++(⟨#[32]⟩:ByteArray)=a:=⟨_,rfl⟩;have n3:¬9223372036854775807<a2.size+1:=by omega
      have m3:¬9223372036854775807<(a2).size+((⟨#[32]⟩:ByteArray)).size:=n3;have q3:a3.size=a2.size+1:=by rw[<- ha3];exact kMa
      have w3:lst a3=lst a2++lst (⟨#[32]⟩:ByteArray):=by rw[<- ha3];exact lst_append _ _
      obtain⟨a4,ha4⟩:∃a:ByteArray,a3++s3=a:=⟨_,rfl⟩;have n4:¬9223372036854775807<a3.size+s3.size:=by omega
      have m4:¬9223372036854775807<(a3).size+(s3).size:=n4;have q4:a4.size=a3.size+s3.size:=by rw[<- ha4];exact kMa
      have w4:lst a4=lst a3++lst s3:=by rw[<- ha4];exact lst_append _ _
      obtain⟨a5,ha5⟩:∃a:ByteArray,a4++(⟨#[10]⟩:ByteArray)=a:=⟨_,rfl⟩;have n5:¬9223372036854775807<a4.size+1:=by omega
      have m5:¬9223372036854775807<(a4).size+((⟨#[10]⟩:ByteArray)).size:=n5;have q5:a5.size=a4.size+1:=by rw[<- ha5];exact kMa
      have w5:lst a5=lst a4++lst (⟨#[10]⟩:ByteArray):=by rw[<- ha5];exact lst_append _ _
      have hrow:rowT ⟨rv,lo,hi'⟩=lst a5:=by
       rw[w5,w4,w3,w2,w1,y1,y2,y3];rfl
      have HTk:=yH (htk.trans (by rw[hrow]));have hz5:((rows.take i).flatMap rowT).length+a5.size<=1000000:=by omega
      generalize (rows.take i).flatMap rowT=cur at *
      clear htk hrow hlen hlen2 w1 w2 w3 w4 w5 y1 y2 y3 q1 q2 q3 q4 q5 z1 z2 z3 f1 f2 f3;have HB:=yH hB;clear hB;go_wp2_with (first|((with_reducible refine Qe ?_);(refine ldPN hS.ile rfl rfl Zo rfl hcell Xv ?_);refine aM ?_)|(refine aN 8 ?_;clear hS;intro X8 w hS)|(refine aS ?_;clear hS;intro w hS))
      obtain⟨I8,l8,m8,hS8,b8⟩:=hS.ice;have i80:I8.at X8 0=some (.int .i64 rv):=PH.at_le m8 (Qb rfl);have i81:I8.at X8 1=some (.int .i64 lo):=PH.at_le m8 (Qb rfl);have i82:I8.at X8 2=some (.int .i64 hi'):=PH.at_le m8 (Qb rfl);have B8:=yH b8;clear hS l8 m8 b8;refine Kf (λ_ _=>False) [[],[0],[0,1],[0,1,2],[],[4],[0,1,2,4,5],[0,1,2,3,4,5,6],[0,1,2,3,4,5,6,7],[],[9],[0,1,2,4,5,6,9,10],[0,1,2,3,4,5,6,7,8,9,10,11],[0,1,2,3,4,5,6,7,8,9,10,11,12],[0,1,2,3,4,5,6,7,8,9,10,11,12,13]] W I8 _
       [λv _=>v=.pointer (some ⟨X8,0,none⟩),λv _=>v=.int .i64 rv,λv _=>v=.string s1,λv _=>v=.string a1,λv _=>v=.pointer (some ⟨X8,1,none⟩),λv _=>v=.int .i64 lo,λv _=>v=.string s2,λv _=>v=.string a2,λv _=>v=.string a3,λv _=>v=.pointer (some ⟨X8,2,none⟩),λv _=>v=.int .i64 hi',λv _=>v=.string s3,λv _=>v=.string a4,λv _=>v=.string a5,λ_ _=>True] [14]
       (λs _ _ ns=>if s=0 then ns=mb::mr::[] else ∃mb' mr',Bld X6 (cur++lst a5) mb' mr'/\ns=mb'::mr'::[]) (by kernel_rfl) (by kernel_rfl) (by decide) hS8 rfl ?last (λ_ _ _ _ _ _ h=>h) (λ_ _ _ _ _ _ h=>h) ?plain ?step ?hZ ?fin
      case last=>exact bL
      case hZ=>exact λ_ _ _ _ h=>h.elim
      case plain=>clear hS8;(repeat' (first|exact trivial|apply And.intro)) <;> first|exact .inl rfl|(refine .inr ?_;intro s vals J bs w hstop hg hJ hS hG;clear hG;refine bZ ?_;intro K HK;(first|(refine bJ ?_)|(go_wp2_with (first|(go_at_call 32;first|((with_reducible refine bB hS (T1.out _) ?_);clear hS;intro w2 hS)|((with_reducible refine bB hS (T2.out _) ?_);clear hS;intro w2 hS)|((with_reducible refine bB hS (T3.out _) ?_);clear hS;intro w2 hS)))));exact bO)
      case step =>
       refine⟨trivial,?_⟩;clear hS8;intro vals J bs w hg hJ hS hG;have hG:bs=mb::mr::[]:=hG;subst hG;refine bZ ?_;intro K HK;go_wp2_with (go_at_call 31;(refine yI (Yf W _ _ _ _ X6 _ _ _ hz5 HB.out hS) ?_);clear hS;rintro e w ⟨rfl,mb2,mr2,hB2,hS⟩;have HB2:=yH hB2;clear hB2)
       exact HK.out _ _ ⟨rfl,J,_,PH.le.refl _,hS,trivial,mb2,mr2,HB2.out,rfl⟩
      case fin =>
       intro vals J9 bs w hJ hg hS hG;obtain⟨mb2,mr2,hB2,hns⟩:=hG;subst hns;have hS:=B8.out _ _ (hS.less hJ);have HB2:=yH hB2;clear hJ hB2 hS8;refine bH ?_;clear hg;go_wp2_with (fail)
       exact⟨⟨i+1,mb2,mr2,by omega,by go_num,by rw[HTk.out];exact HB2.out,hS.drop⟩,by simp[intOf];omega⟩
    . obtain rfl:i=N:=by omega
      have e:rows.take i=rows:=jK (by rw[HNn.out];exact jBb _);have hlen:=HL1.out i hi;rw[e] at hB hlen;have h8:=textD_lt rows roots;have HD:=yH (show textD rows roots=rows.flatMap rowT++[114,111,111,116,115]++roots.flatMap rootT++[10] from rfl);generalize textD rows roots=T at *
      have hz1:(rows.flatMap rowT).length+(⟨#[114,111,111,116,115]⟩:ByteArray).size<=1000000:=by show _+5<=_;omega
      generalize rows.flatMap rowT=cur at *
      have HB:=yH hB;clear hB HCl HF HL1 e;go_wp2_with ( (go_at_call 31;(refine yI (Yf W _ _ _ _ X6 _ _ _ hz1 HB.out hS) ?_);clear hS;rintro e w ⟨rfl,mb1,mr1,hB1,hS⟩;have HB1:=yH hB1;clear hB1) )
      have hB1:Bld X6 (cur++[114,111,111,116,115]) mb1 mr1:=HB1.out;have hlen1:(cur++[114,111,111,116,115]).length<=258053:=by rw[yG];show _+5<=_;omega
      generalize cur++[114,111,111,116,115]=base at *
      clear HB HB1;go_loopw [40] (λv40 wr=>∃(j:Nat) (mb mr:PH),j<=M/\v40=.int .i64 (j:Int)/\Bld X6 (base++(roots.take j).flatMap rootT) mb mr/\Sat W (Qa W) (mb::mr::[]) wr) (λv40 _=>(M-intOf v40).toNat)
      case atStart=>exact⟨0,mb1,mr1,jC _,rfl,by simpa using hB1,hS⟩
      case round =>
       clear hS hB1;obtain⟨j,mb,mr,hj,rfl,hB,hS⟩:=hrel;have hlj:=HL2.out j hj;by_cases hlt2:j<M
       . obtain⟨e,he⟩:∃e,roots[j]?=some e:=⟨_,yA (by rw[HMm.out];exact hlt2)⟩
         obtain⟨Z,oZ,hZ,hcell⟩:=HCr.out (by omega);subst hZ;have hcell:=hcell j e he;have jM:(j:Int)<(M:Int):=by omega
         have he2:I64 e:=by
          have h:=HG.out e (jCb he);exact⟨h.1,by omega⟩
         have htk:base++(roots.take (j+1)).flatMap rootT=base++(roots.take j).flatMap rootT++rootT e:=by rw[jR,he,jNb,<- jE];simp
         have T1:=yH (λw:World=>text_any e w he2);have z1:=textS_size e he2;have y1:=lst_textS e;generalize textS e=s1 at *
         obtain⟨a1,ha1⟩:∃a:ByteArray,(⟨#[32]⟩:ByteArray)++s1=a:=⟨_,rfl⟩;have n1:¬9223372036854775807<1+s1.size:=by omega
         have m1:¬9223372036854775807<((⟨#[32]⟩:ByteArray)).size+(s1).size:=n1;have q1:a1.size=1+s1.size:=by rw[<- ha1];exact kMa
         have w1:lst a1=lst (⟨#[32]⟩:ByteArray)++lst s1:=by rw[<- ha1];exact lst_append _ _
         have hroot:rootT e=lst a1:=by rw[w1,y1];rfl
         have HTk:=yH (htk.trans (by rw[hroot]));have hz2:(base++(roots.take j).flatMap rootT).length+a1.size<=1000000:=by rw[yG];omega
         generalize base++(roots.take j).flatMap rootT=bj at *
         have HB:=yH hB;clear hB he htk hroot w1 y1 q1 z1 he2 hlj HCr;go_wp2_with (first|(go_at_call 32;(with_reducible refine yI (T1.out _) ?_);rintro e' w2 ⟨rfl,hb2⟩;replace hS:=hS.below_ hb2;clear hb2)|(go_at_call 31;(refine yI (Yf W _ _ _ _ X6 _ _ _ hz2 HB.out hS) ?_);clear hS;rintro e' w ⟨rfl,mb2,mr2,hB2,hS⟩;have HB2:=yH hB2;clear hB2)|(refine aL ?_))
         exact⟨⟨j+1,mb2,mr2,by omega,by go_num,by rw[HTk.out];exact HB2.out,hS⟩,by simp[intOf];omega⟩
       . obtain rfl:j=M:=by omega
         have e:roots.take j=roots:=jK (by rw[HMm.out];exact jBb _);rw[e] at hB hlj;have hz2:(base++roots.flatMap rootT).length+(⟨#[10]⟩:ByteArray).size<=1000000:=by rw[yG];show _+1<=_;omega
         have hz3:T.length<=1000000:=by rw[HD.out,yG];exact hz2
         have hT0:T≠[]:=by rw[HD.out];simp
         have hBT:∀mb2 mr2,Bld X6 (base++roots.flatMap rootT++lst ⟨#[10]⟩) mb2 mr2->Bld X6 T mb2 mr2:=λ_ _ h=>by rw[HD.out];exact h
         have HBT:=yH hBT;generalize base++roots.flatMap rootT=bj at *
         have HB:=yH hB;clear hB e hlj HCr HG HL2 hBT;go_wp2_with (first|(go_at_call 31;(refine yI (Yf W _ _ _ _ X6 _ _ _ hz2 HB.out hS) ?_);clear hS;rintro e' w ⟨rfl,mb2,mr2,hB2,hS⟩;have HB2:=yH hB2;clear hB2)|(go_at_call 33;(refine yI (bstring_any W _ _ _ _ X6 _ _ hT0 hz3 h8 (HBT.out _ _ HB2.out) hS) ?_);clear hS;rintro e' w ⟨str,rfl,hstr,hS⟩;have HStr:=yH hstr;clear hstr))
         go_ret2;exact⟨⟨str,0,rfl,HStr.out.trans HT.out.symm,rfl⟩,hS.end_ (PH.le.refl _)⟩
end
section
open Go.RowKit
end
namespace G
def S0:Sem:=λ_ φ ψ χ=>iteF φ ψ χ
structure Lives (m1 m2 m3 m4:Mg) (x y f g:Nat) (q:RS):Prop where
 v0:(Mg.new 2 400).var_ ((0:Nat):Int)=some (m1,x,0)
 v1:m1.var_ ((1:Nat):Int)=some (m2,y,0)
 an:m2.andM [(x:Int),(y:Int)]=some (m3,f,0)
 ro:m3.rowsM [(f:Int)]=some (m3,.inl (q,[4]))
 rows:q.rows=[⟨1,1,0⟩,⟨0,1,2⟩]
 ld:m3.do_ (load1 q.rows 4)=some (m4,g,0)
 sm:(m4.same f g).1=true
 s0:Snd S0 2 2 (Mg.new 2 400)
 s1:Sd S0 2 m1
 s2:Sd S0 2 m2
 s3:Sd S0 2 m3
 fx:∃φ,m2.fn x=some φ
 fy:∃φ,m2.fn y=some φ
 h1:m1.hs.length<=10/\m1.s.pl.room=400
 h2:m2.hs.length<=10/\m2.s.pl.room=400
 h3:m3.hs.length<=10/\m3.s.pl.room=400
 h4:∀p∈m4.hs,p.2<4611686018427387904
theorem lives_data:∃m1 m2 m3 m4 x y f g q,Lives m1 m2 m3 m4 x y f g q:=by
 have h:=lives26_is;unfold lives26 at h;obtain⟨s0,_⟩:=Snd.new (S:=S0) (n:=2) (room:=400) (by decide) (by decide) (by decide);have hw0:(Mg.new 2 400).waits.length=0:=rfl;have hh0:(Mg.new 2 400).hs.length=2:=rfl;have hn0:(Mg.new 2 400).next=2:=rfl;have hr0:(Mg.new 2 400).s.pl.room=400:=rfl;have hbig:(1000:Nat)<big:=by decide
 generalize hm0:Mg.new 2 400=m0 at *
 have sd0:Sd S0 2 m0:=by unfold Sd;rw[hn0];exact s0
 obtain⟨m1,e1,n1⟩:=var_ok sd0 (by omega) (by omega) (by omega) (by rw[hh0,hr0];decide) (v:=0) (by decide);have e1':m0.var_ 0=some (m1,m0.next,0):=e1;rw[e1'] at h;simp only[zK] at h;have l1:=n1.len;have r1:=n1.room;have c1:=n1.cost;obtain⟨w1,hw1⟩:=n1.waits;have hw1:m1.waits.length<=0:=by have:=jNa List.length hw1;rw[yG] at this;omega
 obtain⟨m2,e2,n2⟩:=var_ok n1.ok (by omega) (by omega) (by omega) (by rw[l1,r1,hh0,hr0];decide) (v:=1) (by decide);have e2':m1.var_ 1=some (m2,m1.next,0):=e2;rw[e2'] at h;simp only[zK] at h;have l2:=n2.len;have r2:=n2.room;have c2:=n2.cost;obtain⟨w2,hw2⟩:=n2.waits;have hw2:m2.waits.length<=0:=by have:=jNa List.length hw2;rw[yG] at this;omega
 have fx:m2.fn (m0.next:Int)=some (λρ=>ρ 0):=by
  have h1:=n2.fn (m0.next:Int);have h2:=n1.fn (m0.next:Int)
  have:=n1.lt;rw[jAa (by omega)] at h1;rw[jAb rfl] at h2;rw[h1,h2]
 have fy:m2.fn (m1.next:Int)=some (λρ=>ρ 1):=by
  have h1:=n2.fn (m1.next:Int);rw[jAb rfl] at h1;exact h1
 obtain⟨m3,e3,n3⟩:=doR_ok (K:=2*(2^2-1)) (φ:=[λρ=>ρ 0,λρ=>ρ 1].foldl (λa b ρ=>a ρ&&b ρ) (λ_=>true)) n2.ok (by omega) (by omega) (by omega) (by rw[l2,r2,l1,r1,hh0,hr0];decide) (F:=λm=>foldE andE [(m0.next:Int),(m1.next:Int)] m 0) (λm' hs hfn hhs=>by
  have:=foldE_ok (F:=andE) (f:=λa b ρ=>a ρ&&b ρ) (andE_ok (S:=S0) (λ_ _ _=>rfl)) [(m0.next:Int),(m1.next:Int)] [λρ=>ρ 0,λρ=>ρ 1] m' 0 hs (by rw[hfn];simp only[jDb,jZ,fx,fy]) (.inl rfl);rw[show den m'.s.nd 0=λ_=>true from funext λρ=>den_zero hs.ok.can.g0 ρ] at this;exact this)
 have e3':m2.andM [(m0.next:Int),(m1.next:Int)]=some (m3,m2.next,0):=e3;rw[e3'] at h;simp only[zK] at h;have l3:=n3.len;have r3:=n3.room;cases hro:m3.rowsM [(m2.next:Int)] with
 | none=>rw[hro] at h;cases h
 | some z =>
   obtain⟨m3',res⟩:=z;obtain⟨rfl,hc⟩:=rowsM_cases hro;rw[hro] at h;simp only[zK] at h;rcases hc with⟨q,rr,rfl,_⟩|rfl
   . simp only at h
     cases hld:m3'.do_ (load1 q.rows (rr.getD 0 0)) with
     | none=>rw[hld] at h;cases h
     | some z =>
       obtain⟨m4,g,e4⟩:=z;rw[hld] at h;simp only[zK,jEa,jIa] at h;obtain⟨hq,rfl,hb⟩:=h;simp only[jI,jRb] at hb;obtain⟨hsm,_,rfl⟩:=hb;have hR:RowsOk 2 q.rows 0:=by rw[hq];simp[RowsOk]
       obtain⟨m4',e4,n4⟩:=doR_ok (K:=2*(1+(2^2-1+0))) (φ:=edgeF (Kv (q.rows.take (4/2)) [λ_=>true]) 4) n3.ok (by
        obtain⟨w3,hw3⟩:=n3.waits
        have:=jNa List.length hw3;rw[yG] at this;omega) (by omega) (by have:=n3.cost;omega) (by rw[l3,r3,l2,r2,l1,r1,hh0,hr0];decide) (F:=load1 q.rows 4) (λm' hs hfn hhs=>by
        have:=load1_ok (S:=S0) (λ_ _ _=>rfl) hs hR (root:=4) (by rw[hq];decide);rw[hq] at this ⊢;exact this)
       have hld':m3'.do_ (load1 q.rows 4)=some (m4,g,0):=hld;rw[e4] at hld';obtain⟨rfl,rfl,_⟩:m4'=m4/\m3'.next=g/\True:=by cases hld';exact⟨rfl,rfl,trivial⟩
       exact⟨m1,m2,m3',m4',_,_,_,_,q,⟨by rw[hm0];exact e1,e2,e3',hro,hq,e4,hsm,by rw[hm0];exact s0,n1.ok,n2.ok,n3.ok,⟨_,fx⟩,⟨_,fy⟩,⟨by omega,by omega⟩,⟨by omega,by omega⟩,⟨by omega,by omega⟩,λp hp=>Snd.hs_lt n4.ok p hp⟩⟩
   . simp only at h
     cases h
end G
section
open Go.RowKit
theorem OwnP.row3{m:PH}{e:TypeId}{v:Value}{l:List G.Rw3}(h:OwnP m e 3 v l.length (l.flatMap rowC)):Row3R m v l:=by
 by_cases hl:l=[]
 . subst hl
   rcases h.2 with⟨rfl,_,_⟩|⟨g,cap,cur,rfl,_⟩
   . exact .inl ⟨rfl,rfl⟩
   . obtain⟨A,c,e1,e2⟩:=h.shape
     injection e1 with a1 a2 a3
     subst a3;exact .inr ⟨g,0,cap,rfl,e2,λi x hx=>by cases hx⟩
 . obtain⟨X,c,rfl,_⟩:=h.ptr (List.length_pos_iff.2 hl)
   obtain⟨A,c',e1,e2⟩:=h.shape;injection e1 with a1 a2 a3
   subst a3;exact .inr ⟨X,0,c,rfl,e2,λi x hx=>by rw[jLb];exact Qs rowC_len h hx⟩
theorem OwnP.ints{m:PH}{e:TypeId}{v:Value}{l:List Nat}(h:OwnP m e 1 v l.length (l.flatMap ivC)):IntR m v (l.map λ(h:Nat)=>(h:Int)):=h.num.intR
section
variable{E w:World} {I:PH} {ms:List PH} {D:Nat} {m1 m2 m3 m4:G.Mg} {x y f g:Nat} {q:G.RS}
theorem lv_and(L:G.Lives m1 m2 m3 m4 x y f g q){p:PH}{XS:Nat}(hA:MgAt D m2 p)(hS:Sat E I (PH.one XS (.cells #[nv x,nv y] 3)::p::ms) w) :
  Calls Tryz.prog 28 #[vPt D,.slice (some ⟨XS,0,none⟩) 2 2] w λe w'=>e=.returned (.tuple #[nv f,.int .i64 0])/\∃p',MgAt D m3 p'/\Sat E I (p'::ms) w':=by
 obtain⟨J,l1,l2,h2,back⟩:=hS.ice;obtain⟨φ,fx⟩:=L.fx;obtain⟨ψ,fy⟩:=L.fy;have hO:IntR J (.slice (some ⟨XS,0,none⟩) 2 2) [(x:Int),(y:Int)]:=(OwnP.ints (l:=[x,y]) (OwnP.lit XS 3 1 2 #[nv x,nv y] (by decide) rfl)).le l2;refine (wand_any (S:=G.S0) (λ_ _ _=>rfl) L.s2 (by have:=L.h2.1;omega) (by have:=L.h2.2;omega) (φs:=[φ,ψ]) (by simp only[jDb,jZ,fx,fy]) (by simp) hO L.an hA h2).mono ?_;rintro e w' ⟨rfl,p',h3,h4⟩;exact⟨rfl,p',h3,(back _ _ h4).drop⟩
theorem lv_rows(L:G.Lives m1 m2 m3 m4 x y f g q){p:PH}{XS:Nat}(hA:MgAt D m3 p)(hS:Sat E I (PH.one XS (.cells #[nv f] 3)::p::ms) w) :
  Calls Tryz.prog 16 #[vPt D,.slice (some ⟨XS,0,none⟩) 1 1] w λe w'=>∃vR A c,e=.returned (.tuple #[vR,.slice A 1 c,.int .i64 0])/\∃p' mR mr,OwnP mR 62 3 vR q.rows.length (q.rows.flatMap rowC)/\OwnP mr 3 1 (.slice A 1 c) 1 [nv 4]/\MgAt D m3 p'/\Sat E I (p'::mR::mr::ms) w':=by
 obtain⟨J,l1,l2,h2,back⟩:=hS.ice;have hO:IntR J (.slice (some ⟨XS,0,none⟩) 1 1) [(f:Int)]:=(OwnP.ints (l:=[f]) (OwnP.lit XS 3 1 1 #[nv f] (by decide) rfl)).le l2;refine (wrows_any (S:=G.S0) L.s3 (by have:=L.h3.1;omega) (by have:=L.h3.2;omega) (by simp) hO L.ro hA h2).mono ?_;rintro e w' ⟨p',ns,⟨vR,vr,mR,mr,rfl,rfl,o1,o2⟩,h3,h4⟩;have ho:rowsOut (.inl (q,[4]))=(q.rows,[4],0):=jAa (by rw[L.rows];decide);rw[ho] at o1 o2 ⊢;obtain⟨A,c,rfl,_⟩:=OwnP.shape o2;exact⟨_,A,c,rfl,p',mR,mr,o1,o2,h3,(back _ _ h4).drop⟩
theorem lv_rok(L:G.Lives m1 m2 m3 m4 x y f g q):(∀r∈q.rows,RowFit r)/\G.rightB q.rows [4]=true/\G.RowsOk 2 q.rows 0/\G.wideB 2 q.rows=false/\G.evalB q.rows [true,true] 4=true/\textD q.rows [4]=lst ⟨#[49,32,49,32,48,10,48,32,49,32,50,10,114,111,111,116,115,32,52,10]⟩:=by
 rw[L.rows];refine⟨λr hr=>?_,by decide,by simp[G.RowsOk],by decide,by decide,by decide +kernel⟩;simp only[jBa,jCa,jJb] at hr;rcases hr with rfl|rfl <;> exact⟨by decide,by decide,by decide⟩
theorem lv_load(L:G.Lives m1 m2 m3 m4 x y f g q){p mR mr:PH}{vR:Value}{A:Option Addr}{c:Nat}(o1:OwnP mR 62 3 vR q.rows.length (q.rows.flatMap rowC))(o2:OwnP mr 3 1 (.slice A 1 c) 1 [nv 4])(hA:MgAt D m3 p)(hS:Sat E I (p::mR::mr::ms) w) :
  Calls Tryz.prog 22 #[vPt D,vR,.slice A 1 c] w λe w'=>∃X c',e=.returned (.tuple #[.slice (some ⟨X,0,none⟩) 1 c',.int .i64 0])/\∃p' mo,mo.at X 0=some (nv g)/\MgAt D m4 p'/\Sat E I (p'::mo::mR::mr::ms) w':=by
 obtain⟨k1,k2,k3,k4,_,_⟩:=lv_rok L;have hS1:Sat E I ([mR,mr]++p::ms) w:=(hS.pick 2 rfl).pick 2 rfl |>.perm (List.Perm.swap _ _ _) |>.perm (by  exact List.Perm.swap _ _ _)
 obtain⟨J,l1,l2,h2,back⟩:=Sat.iceL hS1;have hv:m3.s.vars.length=2:=L.s3.vars;have hlm:m3.loadM q.rows [4]=some (m4,[g],0):=by
  unfold G.Mg.loadM;rw[jAb k2,hv,k4];simp only[jFa,jOb];unfold G.Mg.loadL;rw[show ((4:Int).toNat)=4 from rfl,L.ld];rfl
 refine (dload_any (Gd:=λm k=>k=0->m=m3) (rows:=q.rows) (roots:=[4]) ⟨λ_ _ _ _ _ _ _ _ _ h=>by omega,λm k root m' h er hk hm hr hd=>?_⟩ (λm k root hk hm hr=>?_) (by rw[L.rows];decide) (by simp) k1 (by simp) ((OwnP.row3 o1).le (l2 _ (.head _))) ((OwnP.ints (l:=[4]) o2).le (l2 _ (.tail _ (.head _)))) hlm (λ_=>rfl) hA h2).mono ?_
 . simp only[List.length_singleton] at hk
   obtain rfl:=hm (by omega);simp only[jBa,jCa,jJb] at hr;subst hr;have hd:m.do_ (G.load1 q.rows 4)=some (m',h,er):=hd;rw[L.ld] at hd;cases hd;exact L.h4
 . simp only[List.length_singleton] at hk
   obtain rfl:=hm (by omega);simp only[jBa,jCa,jJb] at hr;subst hr;exact⟨_,InvS.of L.s3,InvS.keeps (by have:=L.h3.1;omega) (by have:=L.h3.2;omega),load_inv (λ_ _ _=>rfl) k3,load_do (λ_ _ _=>rfl) k3 (by rw[L.rows];decide)⟩
 . rintro e w' ⟨p',mo,⟨v,rfl,ho⟩,h3,h4⟩
   have ho:OwnP mo 3 1 v [g].length ([g].flatMap ivC):=ho;obtain⟨X,c',rfl,hx⟩:=(OwnP.num ho).2 (by simp);have h5:=back _ _ h4;exact⟨X,c',rfl,p',mo,hx 0 g rfl,h3,(h5.pick 2 rfl).pick 3 rfl |>.perm (List.Perm.swap _ _ _)⟩
end
end
end Go.Proofs.YtidamcdklgfogaaGreat
