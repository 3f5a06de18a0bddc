import Derived.Test.YtidamcdklgfogaaGreatZad
import Derived.Test.YtidamcdklgfogaaGreatZab
import Derived.Test.YtidamcdklgfogaaGreatZbw
import Derived.Lib.AppendStr
import Derived.Lib.UnsafeStr
import Derived.Deep.QuietTactic
import Derived.BigQuiet
import Derived.Lib.Builder
set_option linter.unusedSimpArgs false
set_option linter.unusedVariables false
set_option maxRecDepth 100000
set_option maxHeartbeats 4000000
namespace Go.Proofs.YtidamcdklgfogaaGreat
section
open Go.RowKit
section
variable {E w w':World} {I m:PH} {ms:List PH} {e:TypeId} {size n:Nat} {v:Value} {xs:List Value}
theorem OwnP.of_own2 (h:OwnP m e size v n xs) (hS:Sat E I (m::ms) w) {v':Value} {n':Nat} {ys:List Value} (ho:Own w' 0 e size v' n' ys) (hg:w.grownBy w' v.ownBlock)
  (hv:∀ g,v'.ownBlock=some g→v'.ownBlock=v.ownBlock∨w.heap.size≤g):∃ m',OwnP m' e size v' n' ys∧Sat E I (m'::ms) w':=by
 have hblk:∀ b,m b=none→b<w.heap.size→some b≠v.ownBlock:=fun b hb _ he=>by
  rcases h.2 with ⟨rfl,_⟩|⟨g,cap,cur,rfl,rfl,_⟩
  · cases he
  · simp only [Value.ownBlock,Option.some.injEq] at he
    subst he
    rw [PH.one_self] at hb;cases hb
 have keep:∀ b,b<w.heap.size→m b=none→w'.heap[b]?=w.heap[b]?:=fun b hb h0=>hg.block b hb (hblk b h0 hb)
 rcases ho.2 with ⟨rfl,rfl⟩|⟨g,cap,cur,rfl,_,hh,hc⟩
 · exact ⟨fun _=>none,⟨ho.1,.inl ⟨rfl,rfl,rfl⟩⟩,hS.change hg.size hg.os hg.tape hg.output keep (fun b o hb=>by cases hb) (fun b _ _=>rfl)⟩
 · refine ⟨PH.one g (.cells cur e (0,0)),⟨ho.1,.inr ⟨g,cap,cur,rfl,rfl,hc⟩⟩,hS.change hg.size hg.os hg.tape hg.output keep (fun b o hb=>?_) (fun b hb hlt=>?_)⟩
   · obtain ⟨rfl,rfl⟩:=PH.one_some hb
     exact hh
   · unfold PH.one
     rw [if_neg]
     rintro rfl
     rcases hv b rfl with h1|h1
     · exact hblk b hb hlt h1
     · omega
end
section
variable {P:Program} {w E:World} {I m:PH} {ms:List PH}
theorem run_append_OwnS (t u ty e:TypeId) (i:TypeInfo) (ht:P.underlying t=some (.slice e)) (hu:P.underlying u=some .string) (hi:P.info? e=some i) (hz:i.zero=some (.int .u8 0)) (hsize:i.size=1) (hby:i.bytes=1)
  (v:Value) (n:Nat) (xs:List Value) (hown:Own w 0 e 1 v n xs) (s:ByteArray) (h63:n+s.size≤maxLen) (hbytes:n+s.size≤140737488355328) :
  ∃ v' w',(Builtin.append_ #[t,u] ty #[v,.string s]).run P w=.ok v' w'∧Own w' 0 e 1 v' (n+s.size) (xs ++ Lib.strCells s)∧w.grownBy w' v.ownBlock∧∀ g,v'.ownBlock=some g→v'.ownBlock=v.ownBlock∨w.heap.size≤g:=by
 have hxl:xs.length=n:=by simpa using hown.1
 have hlen:(xs ++ Lib.strCells s).length=(n+s.size) * 1:=by rw [yG,hxl,Lib.strCells_length,Nat.mul_one]
 rcases hown.2 with ⟨rfl,rfl⟩|⟨g,cap,cur,rfl,_,hg,hnc,hcm,hcs,htake⟩
 · have hx:xs=[]:=List.eq_nil_of_length_eq_zero hxl
   subst hx
   obtain ⟨v',w',hr,h2,h3,_⟩:=Lib.run_append_own_string (P:=P) w w.heap.size t u ty e i ht hu hi hz hsize hby _ 0 [] (World.ownsRow_nil w _ e 1) s h63 hbytes (Nat.le_refl _)
   refine ⟨v',w',hr,⟨h2.1,?_⟩,h3,fun g hg=>?_⟩
   · rcases h2.2 with h4|⟨g,cap,cur,h4,h5,h6,h7,h8,h9,h10⟩
     · exact .inl h4
     · exact .inr ⟨g,cap,cur,h4,Nat.zero_le _,h6,h7,h8,by omega,h10⟩
   · rcases h2.2 with ⟨h4,_⟩|⟨g',cap,cur,h4,h5,_⟩
     · subst h4;cases hg
     · subst h4
       simp only [Value.ownBlock,Option.some.injEq] at hg
       subst hg
       exact .inr h5
 · by_cases hroom:n+s.size≤cap
   · have hr:=Lib.run_append_room_string (P:=P) w t u ty e i ht hu hi hsize g n cap cur hg s hroom (by omega)
     refine ⟨_,_,hr,⟨hlen,.inr ⟨g,cap,_,rfl,Nat.zero_le _,setRow_heap w g cur _ e _ hg,hroom,hcm,?_,?_⟩⟩,⟨rfl,rfl,rfl,by simp,fun k _ hk=>setRow_other w g k _ (fun e=>hk (by simp [Value.ownBlock,e]))⟩,fun _ _=>.inl rfl⟩
     · simp only [List.size_toArray,yG,List.length_take,List.length_drop,Array.length_toList,Lib.strCells_length]
       omega
     · have ht':cur.toList.take n=xs:=by simpa using htake
       rw [ht',← hlen]
       exact List.take_left
   · have hall:∀ j u,xs[j]?=some u→w.cell? ((⟨g,0,none⟩:Addr).add j)=some u:=by
       intro j u hu
       have hj:j<n * 1:=by rw [← hown.1];exact (yE.1 hu).1
       have h0:(⟨g,0,none⟩:Addr).add j=⟨g,j,none⟩:=by
        unfold Addr.add
        by_cases h0:j=0 <;> simp [h0]
       rw [h0,cell_of_row w g j cur e (0,0) hg,← hu,← htake,List.getElem?_take_of_lt hj]
       simp
     have hmx:n+s.size≤9223372036854775807:=by unfold maxLen at h63;omega
     have hr:=Lib.run_append_grow_string (P:=P) w t u ty e i (.int .u8 0) ht hu hi hz ⟨g,0,none⟩ n cap xs (by rw [hsize];simpa using hxl) hall s (by omega) (by omega) (by rw [hby];exact growslice_fits (by omega) (by omega))
     have hge:=grownCap_ge w (n+s.size) cap e
     have hcm2:grownCap w (n+s.size) cap e≤maxLen:=grownCap_le_maxLen w (n+s.size) cap e h63
     refine ⟨_,_,hr,⟨hlen,.inr ⟨w.heap.size,_,_,rfl,Nat.zero_le _,heap_alloc_new w.drew _,hge,hcm2,?_,?_⟩⟩,⟨rfl,rfl,rfl,by simp,fun k hk _=>heap_alloc_old w.drew _ hk⟩,fun g' hg'=>.inr ?_⟩
     · have hz1:(Value.int IntKind.u8 0).cells.size=1:=rfl
       simp only [Array.size_append,List.size_toArray,size_zeroCells,hz1,hxl,Lib.strCells_length]
       omega
     · simp only [Array.toList_append,List.append_assoc]
       rw [← List.append_assoc,← hlen]
       exact List.take_left
     · simp only [Value.ownBlock,Option.some.injEq] at hg'
       omega
theorem wp_apStr {o:Oper} {a:Act} {K:Act→World→Prop} {Q:Exit→Act→World→Prop} (hS:Sat E I ms w) (k:Nat) (hm:ms[k]?=some m) {s x:Operand} {t u:TypeId} (ho:o.op=.call { callee:=.builtin .append,args := #[s,x],argTypes := #[t,u] })
  {e:TypeId} (ht:P.underlying t=some (.slice e)) (hu:P.underlying u=some .string) (hi:(P.info? e).map (fun i=>(i.zero,i.size,i.bytes))=some (some (.int .u8 0),1,1))
  {v:Value} {n:Nat} {xs:List Value} (hs:a.eval s=v) (hown:OwnP m e 1 v n xs) {str:ByteArray} (hx:a.eval x=.string str)
  (h63:n+str.size≤140737488355328)
  (h:∀ A' c' m' w',OwnP m' e 1 (.slice A' (n+str.size) c') (n+str.size) (xs ++ Lib.strCells str)→Sat E I (ms.set k m') w'→K (a.put o.dst (.slice A' (n+str.size) c')) w'):o.wp P a w K Q:=by
 obtain ⟨i,hi1,hz1,hs1,hy1⟩:=info_parts hi
 have h0:=hS.perm (Ku k hm)
 obtain ⟨v',w',hr,h2,h3,h4⟩:=run_append_OwnS (P:=P) (w:=w) t u o.type e i ht hu hi1 hz1 hs1 hy1 v n xs (hown.own (h0.own _ (.head _))) str (by unfold maxLen;omega) h63
 obtain ⟨m',ho',hS'⟩:=hown.of_own2 h0 h2 h3 h4
 unfold Oper.wp execOp
 simp only [ho,resolve,invoke,builtin,Sem.run_bind,Sem.run_pure,Result.andThen_ok,List.map_toArray,List.map_cons,List.map_nil,hs,hx,hr]
 obtain ⟨A',c',rfl,_⟩:=ho'.shape
 exact h A' c' m' w' ho' (hS'.perm (Zd k hm))
theorem apStr {o:Oper} {a:Act} {Q:Exit→Act→World→Prop} {ops:Array Oper} {rest:List Oper} (k:Nat) (hS:Sat E I ms w) (hg:o.guard=none) (hm:ms[k]?=some m) {s x:Operand} {t u:TypeId} (ho:o.op=.call { callee:=.builtin .append,args := #[s,x],argTypes := #[t,u] })
  {e:TypeId} (ht:P.underlying t=some (.slice e)) (hu:P.underlying u=some .string) (hi:(P.info? e).map (fun i=>(i.zero,i.size,i.bytes))=some (some (.int .u8 0),1,1))
  {v:Value} {n:Nat} {xs:List Value} (hs:a.eval s=v) (hown:OwnP m e 1 v n xs) {str:ByteArray} (hx:a.eval x=.string str)
  (h63:n+str.size≤140737488355328)
  (h:∀ A' c' m' w',OwnP m' e 1 (.slice A' (n+str.size) c') (n+str.size) (xs ++ Lib.strCells str)→Sat E I (ms.set k m') w'→wpList P ops Q rest (a.put o.dst (.slice A' (n+str.size) c')) w'):wpList P ops Q (o::rest) a w :=
 wpList_plain hg fun _ hK=>wp_apStr hS k hm ho ht hu hi hs hown hx h63 fun A' c' m' w' h2 h3=>hK _ _ (h A' c' m' w' h2 h3)
theorem Sat.unsafe {g:Nat} {c:Array Value} {T:TypeId} {z:Nat × Nat} (hS:Sat E I (PH.one g (.cells c T z)::ms) w) (n:Nat):Sat E I ms (w.freeze ⟨g,0,none⟩ n):=by
 have hk:∀ b,b≠g→(w.freeze ⟨g,0,none⟩ n).heap[b]?=w.heap[b]?:=fun b hb=>by
  unfold World.freeze
  split
  · rfl
  · simp only [Array.getElem?_modify]
    rw [if_neg (Ne.symm hb)]
 refine (hS.change (m':=fun _=>none) ?_ ?_ ?_ ?_ (fun b hb h0=>?_) (fun b o hb=>by cases hb) (fun _ _ _=>rfl)).drop
 · unfold World.freeze;split <;> simp
 · unfold World.freeze;split <;> rfl
 · unfold World.freeze;split <;> rfl
 · unfold World.freeze;split <;> rfl
 · refine hk b ?_
   rintro rfl
   rw [PH.one_self] at h0;cases h0
end
def bcells (l:List Nat):List Value:=l.map fun c:Nat=>Value.int .u8 (c:Int)
theorem bcells_str (s:ByteArray):Lib.strCells s=bcells (lst s):=by
 unfold Lib.strCells bcells lst
 rw [List.map_map]
 rfl
def Bld (X:Nat) (l:List Nat) (mb mr:PH):Prop:=∃ p v,mb=PH.one X (.cells #[.pointer p,v] 75)∧(p=none∨p=some ⟨X,0,none⟩)∧OwnP mr 5 1 v l.length (bcells l)
theorem byte_info:(Tryz.prog.info? 5).map (fun i=>(i.zero,i.size,i.bytes))=some (some (.int .u8 0),1,1):=by kernel_rfl
end
section
open Go.RowKit
theorem ty_agg73:Kz Tryz.prog 73=some false:=by kernel_rfl
theorem ty_sz73:Ko Tryz.prog 73=some 1:=by kernel_rfl
theorem ty_agg39:Kz Tryz.prog 39=some false:=by kernel_rfl
theorem ty_sz39:Ko Tryz.prog 39=some 1:=by kernel_rfl
theorem ty_z75:Xb Tryz.prog 75=some (.agg #[.pointer none,.slice none 0 0]):=by kernel_rfl
theorem Sat.shape {E w:World} {I:PH} {ms:List PH} (h:Sat E I ms w) (k:Nat) {X:Nat} {c:Array Value} {T:TypeId} (hm:ms[k]?=some (PH.one X (.cells c T (0,0)))):w.shape? X=some (T,c.size):=by
 have:=h.own _ (List.mem_of_getElem? hm) X _ (PH.one_self _ _)
 simp [World.shape?,this]
theorem bld_info:(Tryz.prog.info? 75).map (·.size)=some 2:=by kernel_rfl
theorem bld_lies:liesAt Tryz.prog Tryz.prog.depth 75 (2 / Tryz.prog.cellsOf 75) 0 75 1=true:=by kernel_rfl
theorem copyCheck_any (E:World) (I:PH) (ms:List PH) (X:Nat) (p:Option Addr) (v:Value) (w:World) (hp:p=none∨p=some ⟨X,0,none⟩) (hS:Sat E I (PH.one X (.cells #[.pointer p,v] 75)::ms) w) :
  Calls Tryz.prog 76 #[.pointer (some ⟨X,0,none⟩)] w fun e w'=>e=.returned (.tuple #[])∧Sat E I (PH.one X (.cells #[.pointer (some ⟨X,0,none⟩),v] 75)::ms) w':=by
 obtain ⟨j,hj,hjs⟩:=Option.map_eq_some_iff.1 bld_info
 have hsh:=hS.shape 0 rfl
 rcases hp with rfl|rfl
 · go_enter Tryz.func76,Tryz.ntmps76
   go_wp2_with (first|((with_reducible refine Qc ?_);  ((with_reducible refine Qb ?_);( (refine ld1 0 hS rfl rfl ?ha rfl rfl rfl ?_;(case ha=>exact ty_agg73)) );(try simp only [Act.put,zE,zF,zG])) ))
   rw [Lib.run_to_unsafe _ ⟨X,0,none⟩ Tryz.underlying73 Tryz.underlying186 hj (by rw [hjs];decide) hsh (Nat.zero_lt_succ 1)]
   simp only [Result.andThen]
   rw [Oper.upon_value]
   go_wp2_with (fail)
   rw [run_callFunc_extern Tryz.func118 (by kernel_rfl) (by kernel_rfl) (by kernel_rfl) (e:=Extern.AbiNoEscape.same) (by kernel_rfl)]
   rw [Lib.run_noEscape]
   simp only [Result.andThen]
   rw [Oper.upon_value]
   go_wp2_with (fail)
   rw [Lib.run_from_unsafe _ ⟨X,0,none⟩ Tryz.underlying186 Tryz.underlying73 hj hsh bld_lies]
   simp only [Result.andThen]
   rw [Oper.upon_value]
   go_wp2_with (first|((with_reducible refine Qc ?_);  ((with_reducible refine Qn ?_);(first|(refine st1 0 hS rfl rfl rfl rfl rfl ?ha rfl rfl ?hb ?_;(case ha=>exact ty_sz73);(case hb=>(simp;done))));clear hS;intro w hS;(try simp only [zG,zE,Act.eval,zD,zC,zA,zB,zJ] at hS);(try simp only [Act.put])) ))
   go_end0
   exact ⟨rfl,hS⟩
 · go_enter Tryz.func76,Tryz.ntmps76
   go_wp2_with (first|((with_reducible refine Qc ?_);  ((with_reducible refine Qb ?_);( (refine ld1 0 hS rfl rfl ?ha rfl rfl rfl ?_;(case ha=>exact ty_agg73)) );(try simp only [Act.put,zE,zF,zG])) ))
   rw [Lib.run_neq_ptr_same _ _ Tryz.underlying73 hj]
   go_wp2_with (fail)
   go_end0
   exact ⟨rfl,hS⟩
theorem Yr (E:World) (I:PH) (mb mr:PH) (ms:List PH) (X:Nat) (l:List Nat) (s:ByteArray) (w:World) (hl:l.length+s.size≤1000000) (hB:Bld X l mb mr) (hS:Sat E I (mb::mr::ms) w) :
  Calls Tryz.prog 31 #[.pointer (some ⟨X,0,none⟩),.string s] w fun e w'=>e=.returned (.tuple #[.int .i64 s.size,.nilIface])∧∃ mb' mr',Bld X (l ++ lst s) mb' mr'∧Sat E I (mb'::mr'::ms) w':=by
 obtain ⟨p,v,rfl,hp,hO⟩:=hB
 have CC:=yH (fun w'=>copyCheck_any E I (mr::ms) X p v w' hp)
 obtain ⟨A,c,rfl,_⟩:=hO.shape
 go_enter Tryz.func31,Tryz.ntmps31
 go_wp2_with (first|((with_reducible refine Qc ?_);first|((with_reducible refine Qb ?_);( (refine ld1 0 hS rfl rfl ?ha rfl rfl rfl ?_;(case ha=>exact ty_agg39)) );(try simp only [Act.put,zE,zF,zG]))|((with_reducible refine Qn ?_);( (refine st1 0 hS rfl rfl rfl rfl rfl ?ha rfl rfl ?hb ?_;(case ha=>exact ty_sz39);(case hb=>(simp;done))) );clear hS;intro w hS;(try simp only [zF,zG,zE,Act.eval,zD,zC,zA,zB,zJ] at hS);(try simp only [Act.put])) )|(go_at_call 76;(refine yI (CC.out _ hS) ?_);clear hS;rintro e w ⟨rfl,hS⟩)|(at_builtin;(refine' apStr (v:=_) 1 hS rfl rfl rfl Tryz.underlying39 Tryz.underlying9 byte_info rfl ?hown rfl ?h63 ?_);(case hown=>exact hO);(case h63=>go_light;omega);clear hS;intro A1 c1 m1 w hO1 hS;(try simp only [zF,zG] at hS);(try simp only [Act.put,zE,zF,zG])))
 go_ret2
 refine ⟨rfl,_,m1,⟨_,_,rfl,.inr rfl,?_⟩,hS⟩
 rw [bcells_str] at hO1
 have e1:(l ++ lst s).length=l.length+s.size:=by rw [yG,lst_length]
 have e2:bcells (l ++ lst s)=bcells l ++ bcells (lst s):=by unfold bcells;rw [List.map_append]
 rw [e1,e2]
 exact hO1
theorem bstring_any (E:World) (I:PH) (mb mr:PH) (ms:List PH) (X:Nat) (l:List Nat) (w:World) (h0:l≠[]) (hl:l.length≤1000000) (h8:∀ c ∈ l,c<256) (hB:Bld X l mb mr) (hS:Sat E I (mb::mr::ms) w) :
  Calls Tryz.prog 33 #[.pointer (some ⟨X,0,none⟩)] w fun e w'=>∃ str,e=.returned (.string str)∧lst str=l∧Sat E I ms w':=by
 obtain ⟨p,v,rfl,hp,hO⟩:=hB
 have hn0:l.length≠0:=by simpa using h0
 rcases hO.2 with ⟨rfl,hz,_⟩|⟨g,cap,cur,rfl,rfl,hnc,hcm,hcs,htake⟩
 · exact absurd hz hn0
 have hSD:∀ w,(Builtin.unsafeSliceData_ #[39] 137 #[.slice (some ⟨g,0,none⟩) l.length cap]).run Tryz.prog w=.ok (.pointer (some ⟨g,0,none⟩)) w:=fun w=>Lib.run_unsafeSliceData_row _ _ _ _ _ _ (by omega)
 let bl:List UInt8:=l.map Nat.toUInt8
 have hbl:bl.length=l.length:=by simp [bl]
 have hUS:∀ w:World,w.heap[g]?=some (.cells cur 5 (0,0))→(Builtin.unsafeString_ #[137,3] 9 #[.pointer (some ⟨g,0,none⟩),.int .i64 l.length]).run Tryz.prog w=.ok (.string ⟨bl.toArray⟩) (w.freeze ⟨g,0,none⟩ l.length):=by
  intro w hg
  rw [← hbl]
  refine Lib.run_unsafeString_row w 137 3 9 5 Tryz.underlying137 (by kernel_rfl) g cur.size (by simp [World.shape?,hg]) bl (by intro h;rw [h] at hbl;exact hn0 hbl.symm) (by omega) (by omega) ?_
  intro j x hx
  have hj:j<l.length:=by rw [← hbl];exact (yE.1 hx).1
  have h2:(⟨g,0,none⟩:Addr).add j=⟨g,j,none⟩:=by
   unfold Addr.add
   by_cases h0:j=0 <;> simp [h0]
  have h3:w.cell? ⟨g,j,none⟩=cur[j]?:=cell_of_row w g j cur 5 (0,0) hg
  have h4:cur[j]?=(bcells l)[j]?:=by
   rw [← htake,Nat.mul_one,List.getElem?_take_of_lt hj];simp
  rw [h2]
  show w.cell? ⟨g,j,none⟩=_
  rw [h3,h4]
  have hlj:=yA hj
  simp only [bl,List.getElem?_map,hlj,Option.map_some,Option.some.injEq] at hx
  subst hx
  have h5:=h8 _ (List.getElem_mem hj)
  unfold bcells
  rw [List.getElem?_map,hlj]
  simp only [Option.map_some,Nat.toUInt8,UInt8.toNat_ofNat']
  congr 2
  omega
 have hlst:lst ⟨bl.toArray⟩=l:=by
  unfold lst
  show (bl.toArray.toList).map UInt8.toNat=l
  simp only [bl,List.map_map]
  refine (List.map_congr_left fun c hc=>?_).trans (List.map_id l)
  have:=h8 c hc
  simp only [Function.comp,Nat.toUInt8,UInt8.toNat_ofNat']
  simp only [id]
  omega
 generalize (⟨bl.toArray⟩:ByteArray)=str at *
 clear_value bl
 clear hbl
 go_enter Tryz.func33,Tryz.ntmps33
 go_wp2_with fail
 refine region_ogZ (fun _ _=>False) [[],[0],[0,1],[0,1,2],[0,1,2,3],[],[5],[5,6],[5,6,7],[5,6,7,8],[0,1,2,3,4,5,6,7,8,9],[0,1,2,3,4,5,6,7,8,9,10]] E I [] _ (Facts [fun v _=>v=.pointer (some ⟨X,0,none⟩),fun v _=>v=.pointer (some ⟨X,0,none⟩),fun v _=>v=.pointer (some ⟨X,1,none⟩),fun v _=>v=.slice (some ⟨g,0,none⟩) l.length cap,fun v _=>v=.pointer (some ⟨g,0,none⟩),fun v _=>v=.pointer (some ⟨X,0,none⟩),fun v _=>v=.pointer (some ⟨X,0,none⟩),fun v _=>v=.pointer (some ⟨X,1,none⟩),fun v _=>v=.slice (some ⟨g,0,none⟩) l.length cap,fun v _=>v=.int .i64 (l.length:Int),fun v _=>v=.string str,fun v _=>v=.string str]) (fun L _ _ ns=>ns=PH.one X (.cells #[.pointer p,.slice (some ⟨g,0,none⟩) l.length cap] 75)::(if L 10=true then ms else PH.one g (.cells cur 5 (0,0))::ms)) (by kernel_rfl) (by kernel_rfl) hS (by simp) ?mono ?step (fun _ _ _ _ h=>h.elim) ?fin
 case mono =>
  refine fun i v I J hJ=>Facts.lasting ?_ i v I J hJ
  repeat (first|exact Lasting.nil|refine Lasting.cons (fun _ _ _ _ h=>h) ?_)
 case step =>
  intro i hi L vals J ns w' hLi hdown hanc hJ hS hns
  subst hns
  have hi8:i=0∨i=1∨i=2∨i=3∨i=4∨i=5∨i=6∨i=7∨i=8∨i=9∨i=10∨i=11:=by simp at hi;omega
  rcases hi8 with rfl|rfl|rfl|rfl|rfl|rfl|rfl|rfl|rfl|rfl|rfl|rfl
  · simp only [Qd,Qh,Qj,zI];refine Qm (fun K hK=>?_);have HK1:=yH hK;clear hK;rw [if_pos (by rfl)]
    go_wp2_with fail
    refine HK1.out _ _ ⟨rfl,J,_,PH.le.refl _,hS,?_,?_⟩
    · simp only [Facts,Qo,zI,zD,zC,zA,zB,zJ]
    · simp [upd]
  · have h0:=(hanc 0 (by decide)).2
    simp only [Facts,zI] at h0
    simp only [Qd,Qh,Qe,Qj,zH,zI,zB,zK,if_true,Act.put,zE,zF,zG,h0];refine Qm (fun K hK=>?_);have HK1:=yH hK;clear hK;rw [if_pos (by rfl)]
    go_wp2_with fail
    refine HK1.out _ _ ⟨rfl,J,_,PH.le.refl _,hS,?_,?_⟩
    · simp only [Facts,Qo,zH,zI,zD,zC,zA,zB,zJ]
    · simp [upd]
  · have h1:=(hanc 1 (by decide)).2
    simp only [Facts,zH,zI] at h1
    simp only [Qd,Qh,Qe,Qj,zH,zI,zA,zB,zK,if_true,Act.put,zE,zF,zG,h1];refine Qm (fun K hK=>?_);have HK1:=yH hK;clear hK;rw [if_pos (by rfl)]
    go_wp2_with fail
    refine HK1.out _ _ ⟨rfl,J,_,PH.le.refl _,hS,?_,?_⟩
    · simp only [Facts,Qo,zH,zI,zD,zC,zA,zB,zJ]
    · simp [upd]
  · have h2:=(hanc 2 (by decide)).2
    simp only [Facts,zH,zI] at h2
    have l10:L 10=false:=by
     cases h:L 10 with
     | false=>rfl
     | true=>have:=hdown 10 (by decide) h 3 (by decide);rw [hLi] at this;cases this
    rw [l10] at hS
    simp only [Bool.false_eq_true,if_false,List.nil_append] at hS
    simp only [Qd,Qh,Qe,Qj,zH,zI,zA,zB,zK,if_true,Act.put,zE,zF,zG,h2];refine Qm (fun K hK=>?_);have HK1:=yH hK;clear hK;rw [if_pos (by rfl)]
    (with_reducible refine Qs ?_)
    refine wp_ldo1 (X:=X) (c := #[.pointer p,.slice (some ⟨g,0,none⟩) l.length cap]) hS (List.mem_of_getElem? (i:=0) rfl) ty_agg39 rfl rfl ?_
    refine HK1.out _ _ ⟨rfl,J,_,PH.le.refl _,hS,?_,?_⟩
    · simp only [Facts,Qo,zH,zI,Act.put,zE,zF,zG,zD,zC,zA,zB,zJ]
    · simp [upd,l10]
  · have h3:=(hanc 3 (by decide)).2
    simp only [Facts,zH,zI] at h3
    have hSD:=hSD w'
    simp only [Qd,Qh,Qe,Qj,zH,zI,zA,zB,zK,if_true,Act.put,zE,zF,zG,h3];refine Qm (fun K hK=>?_);have HK1:=yH hK;clear hK;rw [if_pos (by rfl)]
    go_wp2_with fail
    refine HK1.out _ _ ⟨rfl,J,_,PH.le.refl _,hS,?_,?_⟩
    · simp only [Facts,Qo,zH,zI,zD,zC,zA,zB,zJ]
    · simp [upd]
  · simp only [Qd,Qh,Qe,Qj,zH,zI,zA,zB,zK,if_true,Act.put,zE,zF,zG];refine Qm (fun K hK=>?_);have HK1:=yH hK;clear hK;rw [if_pos (by rfl)]
    go_wp2_with fail
    refine HK1.out _ _ ⟨rfl,J,_,PH.le.refl _,hS,?_,?_⟩
    · simp only [Facts,Qo,zH,zI,zD,zC,zA,zB,zJ]
    · simp [upd]
  · have h5:=(hanc 5 (by decide)).2
    simp only [Facts,zH,zI] at h5
    simp only [Qd,Qh,Qe,Qj,zH,zI,zA,zB,zK,if_true,Act.put,zE,zF,zG,h5];refine Qm (fun K hK=>?_);have HK1:=yH hK;clear hK;rw [if_pos (by rfl)]
    go_wp2_with fail
    refine HK1.out _ _ ⟨rfl,J,_,PH.le.refl _,hS,?_,?_⟩
    · simp only [Facts,Qo,zH,zI,zD,zC,zA,zB,zJ]
    · simp [upd]
  · have h6:=(hanc 6 (by decide)).2
    simp only [Facts,zH,zI] at h6
    simp only [Qd,Qh,Qe,Qj,zH,zI,zA,zB,zK,if_true,Act.put,zE,zF,zG,h6];refine Qm (fun K hK=>?_);have HK1:=yH hK;clear hK;rw [if_pos (by rfl)]
    go_wp2_with fail
    refine HK1.out _ _ ⟨rfl,J,_,PH.le.refl _,hS,?_,?_⟩
    · simp only [Facts,Qo,zH,zI,zD,zC,zA,zB,zJ]
    · simp [upd]
  · have h7:=(hanc 7 (by decide)).2
    simp only [Facts,zH,zI] at h7
    have l10:L 10=false:=by
     cases h:L 10 with
     | false=>rfl
     | true=>have:=hdown 10 (by decide) h 8 (by decide);rw [hLi] at this;cases this
    rw [l10] at hS
    simp only [Bool.false_eq_true,if_false,List.nil_append] at hS
    simp only [Qd,Qh,Qe,Qj,zH,zI,zA,zB,zK,if_true,Act.put,zE,zF,zG,h7];refine Qm (fun K hK=>?_);have HK1:=yH hK;clear hK;rw [if_pos (by rfl)]
    (with_reducible refine Qs ?_)
    refine wp_ldo1 (X:=X) (c := #[.pointer p,.slice (some ⟨g,0,none⟩) l.length cap]) hS (List.mem_of_getElem? (i:=0) rfl) ty_agg39 rfl rfl ?_
    refine HK1.out _ _ ⟨rfl,J,_,PH.le.refl _,hS,?_,?_⟩
    · simp only [Facts,Qo,zH,zI,Act.put,zE,zF,zG,zD,zC,zA,zB,zJ]
    · simp [upd,l10]
  · have h8:=(hanc 8 (by decide)).2
    simp only [Facts,zH,zI] at h8
    simp only [Qd,Qh,Qe,Qj,zH,zI,zA,zB,zK,if_true,Act.put,zE,zF,zG,h8];refine Qm (fun K hK=>?_);have HK1:=yH hK;clear hK;rw [if_pos (by rfl)]
    go_wp2_with fail
    refine HK1.out _ _ ⟨rfl,J,_,PH.le.refl _,hS,?_,?_⟩
    · simp only [Facts,Qo,zH,zI,zD,zC,zA,zB,zJ]
    · simp [upd]
  · have h4:=(hanc 4 (by decide)).2
    simp only [Facts,zH,zI] at h4
    have h9:=(hanc 9 (by decide)).2
    simp only [Facts,zH,zI] at h9
    rw [hLi] at hS
    simp only [Bool.false_eq_true,if_false,List.nil_append] at hS
    have hUS:=hUS w' (hS.own _ (.tail _ (.head _)) g _ (PH.one_self _ _))
    simp only [Qd,Qh,Qe,Qj,zH,zI,zA,zB,zK,if_true,Act.put,zE,zF,zG,h4,h9];refine Qm (fun K hK=>?_);have HK1:=yH hK;clear hK;rw [if_pos (by rfl)]
    go_wp2_with fail
    replace hS:Sat E J (PH.one X (.cells #[.pointer p,.slice (some ⟨g,0,none⟩) l.length cap] 75)::ms) (w'.freeze ⟨g,0,none⟩ l.length):=(hS.perm (List.Perm.swap _ _ _)).unsafe l.length
    refine HK1.out _ _ ⟨rfl,J,_,PH.le.refl _,hS,?_,?_⟩
    · simp only [Facts,Qo,zH,zI,zD,zC,zA,zB,zJ]
    · simp [upd]
  · have h10:=(hanc 10 (by decide)).2
    simp only [Facts,zH,zI] at h10
    simp only [Qd,Qh,Qe,Qj,zH,zI,zA,zB,zK,if_true,Act.put,zE,zF,zG,h10];refine Qm (fun K hK=>?_);have HK1:=yH hK;clear hK;rw [if_pos (by rfl)]
    go_wp2_with fail
    refine HK1.out _ _ ⟨rfl,J,_,PH.le.refl _,hS,?_,?_⟩
    · simp only [Facts,Qo,zH,zI,zD,zC,zA,zB,zJ]
    · simp [upd]
 case fin =>
  intro vals J ns w hJ hD hS hL
  obtain ⟨L,hL,rfl⟩:=hL
  rw [hL 10 (by decide),if_pos rfl] at hS
  have hv:vals 11=.string str:=hD 11 (by decide)
  simp only [Qd,Qh,Qe,yB,yC,Nat.reduceAdd,zA,zB,zK,if_true,Act.put,zE,zF,zG,hv]
  go_wp2_with fail
  go_ret
  exact ⟨_,rfl,hlst,(hS.less hJ).drop⟩
end
end Go.Proofs.YtidamcdklgfogaaGreat
