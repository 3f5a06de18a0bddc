import Derived.Test.YtidamcdklgfogaaGreatZab
import Derived.Test.YtidamcdklgfogaaGreatZae
import Derived.Laws.CopyRow
set_option linter.unusedSimpArgs false
set_option linter.unusedVariables false
set_option maxRecDepth 100000
set_option maxHeartbeats 1000000
namespace Go.Proofs.YtidamcdklgfogaaGreat
section
open Go.RowKit
def PH.all:List PH→PH
 | []=>fun _=>none
 | m::l=>m.join (PH.all l)
theorem PH.all_some {l:List PH} {b:Nat} {o:Obj} (h:PH.all l b=some o):∃ m ∈ l,m b=some o:=by
 induction l with
 | nil=>cases h
 | cons m l ih =>
   unfold PH.all PH.join at h
   cases hm:m b with
   | some u=>rw [hm] at h;exact ⟨m,.head _,by rw [hm];exact h⟩
   | none =>
     rw [hm] at h
     obtain ⟨n,hn,h1⟩:=ih h
     exact ⟨n,.tail _ hn,h1⟩
theorem PH.all_mem {l:List PH} (hd:l.Pairwise PH.off) {m:PH} (hm:m ∈ l):m.le (PH.all l):=by
 induction l with
 | nil=>cases hm
 | cons n l ih =>
   obtain ⟨h1,h2⟩:=List.pairwise_cons.1 hd
   intro b o hb
   unfold PH.all PH.join
   rcases List.mem_cons.1 hm with rfl|hm
   · rw [hb]
   · rcases h1 m hm b with h|h
     · rw [h];exact ih h2 hm b o hb
     · rw [hb] at h;cases h
def Bd (m:PH) (l:List PH):Prop:=m=PH.all l∧l.Pairwise PH.off
section
variable {E w:World} {I m:PH} {l ms:List PH}
theorem Sat.pack (l:List PH) (h:Sat E I (l ++ ms) w):∃ m,Bd m l∧Sat E I (m::ms) w:=by
 obtain ⟨d1,d2,d3⟩:=List.pairwise_append.1 h.dis
 refine ⟨PH.all l,⟨rfl,d1⟩,h.os,h.tape,h.output,h.imm,fun p hp b o hb=>?_,fun p hp b=>?_,List.pairwise_cons.2 ⟨fun p hp b=>?_,d2⟩,h.size⟩
 · rcases List.mem_cons.1 hp with rfl|hp
   · obtain ⟨q,hq,h1⟩:=PH.all_some hb
     exact h.own q (List.mem_append_left _ hq) b o h1
   · exact h.own p (List.mem_append_right _ hp) b o hb
 · rcases List.mem_cons.1 hp with rfl|hp
   · cases hb:PH.all l b with
     | none=>exact .inl rfl
     | some o =>
       obtain ⟨q,hq,h1⟩:=PH.all_some hb
       rcases h.sep q (List.mem_append_left _ hq) b with h2|h2
       · rw [h1] at h2;cases h2
       · exact .inr h2
   · exact h.sep p (List.mem_append_right _ hp) b
 · cases hb:PH.all l b with
   | none=>exact .inl rfl
   | some o =>
     obtain ⟨q,hq,h1⟩:=PH.all_some hb
     rcases d3 q hq p hp b with h2|h2
     · rw [h1] at h2;cases h2
     · exact .inr h2
theorem Sat.unpack (hb:Bd m l) (h:Sat E I (m::ms) w):Sat E I (l ++ ms) w:=by
 obtain ⟨rfl,hd⟩:=hb
 obtain ⟨d1,d2⟩:=List.pairwise_cons.1 h.dis
 have hle:∀ {p},p ∈ l→p.le (PH.all l):=fun hp=>PH.all_mem hd hp
 have hnone:∀ {p b},p ∈ l→PH.all l b=none→p b=none:=fun {p b} hp h0=>by
  cases hpb:p b with
  | none=>rfl
  | some o=>rw [hle hp b o hpb] at h0;cases h0
 refine ⟨h.os,h.tape,h.output,h.imm,fun p hp b o hpb=>?_,fun p hp b=>?_,List.pairwise_append.2 ⟨hd,d2,fun p hp q hq b=>?_⟩,h.size⟩
 · rcases List.mem_append.1 hp with hp|hp
   · exact h.own _ (.head _) b o (hle hp b o hpb)
   · exact h.own p (.tail _ hp) b o hpb
 · rcases List.mem_append.1 hp with hp|hp
   · rcases h.sep _ (.head _) b with h0|h0
     · exact .inl (hnone hp h0)
     · exact .inr h0
   · exact h.sep p (.tail _ hp) b
 · rcases d1 q hq b with h0|h0
   · exact .inl (hnone hp h0)
   · exact .inr h0
theorem Sat.pick (h:Sat E I ms w) (k:Nat) (hm:ms[k]?=some m):Sat E I (m::ms.eraseIdx k) w:=h.perm (Ku k hm)
theorem Sat.back {m':PH} (k:Nat) (hm:ms[k]?=some m) (h:Sat E I (m'::ms.eraseIdx k) w):Sat E I (ms.set k m') w:=h.perm (Zd k hm)
end
section
variable {P:Program} {o:Oper} {a:Act} {w E:World} {K:Act→World→Prop} {Q:Exit→Act→World→Prop} {I:PH} {ms:List PH}
def spl (xs:List Value) (off:Nat) (us:List Value):List Value:=xs.take off ++ us ++ xs.drop (off+us.length)
theorem spl_len {xs us:List Value} {off:Nat} (h:off+us.length≤xs.length):(spl xs off us).length=xs.length:=by unfold spl;simp;omega
theorem wp_stM (hS:Sat E I ms w) (k:Nat) {T:TypeId} {x y:Operand} (ho:o.op=.store T x y) {X off:Nat} {c:Array Value} {T':TypeId} {v:Value} (hx:a.eval x=.pointer (some ⟨X,off,none⟩)) (hy:a.eval y=v)
  (hm:ms[k]?=some (PH.one X (.cells c T' (0,0)))) (hs:Ko P T=some v.cells.size) (hlt:off+v.cells.size≤c.size) (h1:∀ u ∈ v.cells.toList,u.oneCell'=true)
  (h:∀ w',Sat E I (ms.set k (PH.one X (.cells (spl c.toList off v.cells.toList).toArray T'))) w'→K (a.put o.dst undef) w'):o.wp P a w K Q:=by
 unfold Oper.wp execOp
 have h0:=hS.perm (Ku k hm)
 have hg:=h0.own _ (.head _) X _ (PH.one_self _ _)
 have hst:=run_storeCells_at (P:=P) X off T' v.cells.toList 0 c w hg (by simpa using hlt) h1
 have hsz:=Xn hs
 simp only [Nat.add_zero] at hst
 simp only [ho,hx,hy,Instr.storeAt,Instr.sureAddr,Sem.run_bind,Sem.run_pure,Result.andThen_ok]
 cases hq:P.info? T with
 | none=>rw [hq] at hsz;cases hsz
 | some i =>
   have hs':v.cells.size=i.size:=by rw [hq] at hsz;simpa using hsz.symm
   have hv:(storeVar T ⟨X,off,none⟩ v).run P w=.ok () (w.setRow X (spl c.toList off v.cells.toList).toArray):=by
    unfold spl
    simp [storeVar,sizeOf,typeInfo,hq,hs',hst]
   rw [hv]
   exact h _ ((setRow_step h0).perm (Zd k hm))
theorem Xr (hS:Sat E I ms w) (k:Nat) {m:PH} (hm:ms[k]?=some m) {T e:TypeId} {x y:Operand} (ho:o.op=.store T x y) {X off n c size i:Nat} {xs:List Value} {v:Value} (hx:a.eval x=.pointer (some ⟨X,off,none⟩)) (hy:a.eval y=v)
  (hO:OwnP m e size (.slice (some ⟨X,0,none⟩) n c) n xs) (hoff:off=i * size) (hi:i<n) (hs:Ko P T=some size) (hv:v.cells.size=size) (h1:∀ u ∈ v.cells.toList,u.oneCell'=true)
  (h:∀ m' w',OwnP m' e size (.slice (some ⟨X,0,none⟩) n c) n (spl xs off v.cells.toList)→Sat E I (ms.set k m') w'→K (a.put o.dst undef) w'):o.wp P a w K Q:=by
 subst hoff
 have hle:i * size+size≤n * size:=by rw [← Nat.succ_mul];exact Nat.mul_le_mul_right _ hi
 rcases hO.2 with ⟨h0,_⟩|⟨g,cap,cur,hvs,rfl,hnc,hcm,hcs,htk⟩
 · cases h0
 · injection hvs with hA _ hC
   injection hA with hA
   injection hA with hA
   subst hA hC
   have hns:n * size≤c * size:=Nat.mul_le_mul_right _ hnc
   refine wp_stM hS k ho hx hy hm (by rw [hv];exact hs) (by rw [hv];omega) h1 fun w' hS'=>h _ w' ⟨?_,.inr ⟨X,c,_,rfl,rfl,hnc,hcm,?_,?_⟩⟩ hS'
   · rw [spl_len (by rw [hO.1];simp [hv];omega)];exact hO.1
   · simp only [List.size_toArray]
     rw [spl_len (by simp [hv];omega)];simpa using hcs
   · simp only
     rw [← htk]
     have hvl:v.cells.toList.length=size:=by simpa using hv
     generalize v.cells.toList=us at *
     generalize cur.toList=cs at *
     have hcl:n * size≤cs.length:=by
      have:=hO.1
      rw [← htk,List.length_take] at this
      omega
     unfold spl
     have e1:(cs.take (n * size)).take (i * size)=cs.take (i * size):=by rw [List.take_take,Nat.min_eq_left (by omega)]
     have e2:(cs.take (n * size)).drop (i * size+us.length)=(cs.drop (i * size+us.length)).take (n * size - (i * size+us.length)):=List.drop_take
     have e3:(cs.take (i * size) ++ us).length=i * size+us.length:=by simp;omega
     rw [e1,e2,List.take_append,e3,List.take_of_length_le (by rw [e3];omega)]
theorem st_row {ops:Array Oper} {rest:List Oper} (k:Nat) (hS:Sat E I ms w) (hg:o.guard=none) {m:PH} (hm:ms[k]?=some m) {T e:TypeId} {x y:Operand} (ho:o.op=.store T x y) {X off n c size i:Nat} {xs:List Value} {v:Value} (hx:a.eval x=.pointer (some ⟨X,off,none⟩)) (hy:a.eval y=v)
  (hO:OwnP m e size (.slice (some ⟨X,0,none⟩) n c) n xs) (hoff:off=i * size) (hi:i<n) (hs:Ko P T=some size) (hv:v.cells.size=size) (h1:∀ u ∈ v.cells.toList,u.oneCell'=true)
  (h:∀ m' w',OwnP m' e size (.slice (some ⟨X,0,none⟩) n c) n (spl xs off v.cells.toList)→Sat E I (ms.set k m') w'→wpList P ops Q rest (a.put o.dst undef) w'):wpList P ops Q (o::rest) a w :=
 wpList_plain hg fun _ hK=>Xr hS k hm ho hx hy hO hoff hi hs hv h1 fun m' w' h2 h3=>hK _ _ (h m' w' h2 h3)
end
section
variable {α:Type} {f:α→List Value} {size:Nat}
theorem Zq (hf:∀ x,(f x).length=size):∀ l:List α,(l.flatMap f).length=l.length * size
 | []=>by simp
 | x::l=>by rw [List.flatMap_cons,yG,hf,Zq hf l,yB,Nat.succ_mul];omega
theorem flat_split (hf:∀ x,(f x).length=size):∀ (l:List α) (i:Nat),(l.flatMap f).take (i * size)=(l.take i).flatMap f∧(l.flatMap f).drop (i * size)=(l.drop i).flatMap f
 | l,0=>by simp
 | [],i+1=>by simp
 | x::l,i+1=>by
   obtain ⟨h1,h2⟩:=flat_split hf l i
   have e:(i+1) * size=(f x).length+i * size:=by rw [hf,Nat.succ_mul];omega
   rw [List.flatMap_cons,e,List.take_length_add_append,List.drop_length_add_append,h1,h2,List.take_succ_cons,List.flatMap_cons,List.drop_succ_cons]
   exact ⟨rfl,rfl⟩
theorem flat_set (hf:∀ x,(f x).length=size) (l:List α) (i:Nat) (hi:i<l.length) (x:α):spl (l.flatMap f) (i * size) (f x)=(l.set i x).flatMap f:=by
 unfold spl
 obtain ⟨h1,_⟩:=flat_split hf l i
 obtain ⟨_,h2⟩:=flat_split hf l (i+1)
 rw [h1,hf,show i * size+size=(i+1) * size by rw [Nat.succ_mul],h2,List.set_eq_take_append_cons_drop,if_pos hi,List.flatMap_append,List.flatMap_cons,List.append_assoc]
theorem flat_get (hf:∀ x,(f x).length=size) (l:List α) (i:Nat) (x:α) (hx:l[i]?=some x):((l.flatMap f).drop (i * size)).take size=f x:=by
 obtain ⟨_,h2⟩:=flat_split hf l i
 have hi:=(yE.1 hx).1
 rw [h2,List.drop_eq_getElem_cons hi,List.flatMap_cons,(yE.1 hx).2,List.take_append_of_le_length (by rw [hf];exact Nat.le_refl _),List.take_of_length_le (by rw [hf];exact Nat.le_refl _)]
theorem Ke {m:PH} {e:TypeId} {X n c:Nat} {l:List α} (hf:∀ x,(f x).length=size) (hO:OwnP m e size (.slice (some ⟨X,0,none⟩) n c) n (l.flatMap f)) {i:Nat} {x:α} (hx:l[i]?=some x):Cells m X (i * size) (f x):=by
 have hi:=(yE.1 hx).1
 have hn:0<n∨size=0:=by
  have:=hO.1
  rw [Zq hf] at this
  rcases Nat.eq_zero_or_pos n with h|h
  · subst h
    rw [Nat.zero_mul] at this
    rcases Nat.mul_eq_zero.1 this with h2|h2
    · omega
    · exact .inr h2
  · exact .inl h
 rcases hn with hn|hn
 · obtain ⟨g,hg,hc⟩:=hO.cells hn
   injection hg with hg
   injection hg with hg
   subst hg
   have:=hc.part (i * size) size
   rw [flat_get hf l i x hx,Nat.zero_add] at this
   exact this
 · subst hn
   have:f x=[]:=List.eq_nil_of_length_eq_zero (hf x)
   rw [this]
   intro j v hj
   simp at hj
end
end
section
open Go.RowKit
theorem Qf:Kz Tryz.prog 3=some false:=by kernel_rfl
theorem Kk:Ko Tryz.prog 3=some 1:=by kernel_rfl
theorem ty_z3:Xb Tryz.prog 3=some (.int .i64 0):=by kernel_rfl
theorem Yb:Kz Tryz.prog 4=some false:=by kernel_rfl
theorem ty_sz4:Ko Tryz.prog 4=some 1:=by kernel_rfl
theorem ty_z4:Xb Tryz.prog 4=some (.bool false):=by kernel_rfl
theorem Zg:Kz Tryz.prog 194=some true:=by kernel_rfl
theorem Qt:Ko Tryz.prog 194=some 5:=by kernel_rfl
theorem Zp:Xb Tryz.prog 194=some (.agg #[.int .i64 0,.int .i64 0,.int .i64 0,.int .i64 0,.int .i64 0]):=by kernel_rfl
theorem node_info:(Tryz.prog.info? 194).map (fun i=>(i.zero,i.size,i.bytes))=some (some (.agg #[.int .i64 0,.int .i64 0,.int .i64 0,.int .i64 0,.int .i64 0]),5,40):=by kernel_rfl
theorem bool_info:(Tryz.prog.info? 4).map (fun i=>(i.zero,i.size,i.bytes))=some (some (.bool false),1,1):=by kernel_rfl
theorem int_info:(Tryz.prog.info? 3).map (fun i=>(i.zero,i.size,i.bytes))=some (some (.int .i64 0),1,8):=by kernel_rfl
abbrev node0:Array Value := #[.int .i64 0,.int .i64 0,.int .i64 0,.int .i64 0,.int .i64 0]
theorem made_node:madeCells (Value.cells (.agg #[.int .i64 0,.int .i64 0,.int .i64 0,.int .i64 0,.int .i64 0])) (1 * 5)=node0:=by kernel_rfl
theorem made_bool:madeCells (Value.cells (.bool false)) (1 * 1) = #[.bool false]:=by kernel_rfl
abbrev vSl (n:Nat) (X:Nat):Value:=.slice (some ⟨X,0,none⟩) n n
abbrev vPt (X:Nat):Value:=.pointer (some ⟨X,0,none⟩)
theorem pnew_ok (E:World) (I:PH) (ms:List PH) (room:Int) (w:World) (h1:1≤room) (h2:room≤1048576) (hS:Sat E I ms w) :
  Calls Tryz.prog 113 #[.int .i64 room] w fun e w'=>∃ X A T,e=.returned (.tuple #[.pointer (some ⟨X,0,none⟩),.int .i64 0]) ∧
   Sat E I (PH.one X (.cells #[.int .i64 room,.slice (some ⟨A,0,none⟩) 1 1,.slice (some ⟨T,0,none⟩) 1 1,.slice none 0 0,.int .i64 0] 216)::PH.one A (.cells node0 194)::PH.one T (.cells #[.bool false] 4)::ms) w':=by
 go_enter Tryz.func113,Tryz.ntmps113
 go_wp2_with fail
 refine region_mk [[],[],[],[0,1,2],[0,1,2,3],[0,1,2,3,4],[0,1,2,3,4,5]] E I ms
  [fun _ v _=>v=.int .i64 room,fun _ v _=>∃ X,v=vSl 1 X,fun _ v _=>∃ X,v=vSl 1 X,fun vals v _=>v=.agg #[.int .i64 room,vals 1,vals 2,.slice none 0 0,.int .i64 0],fun _ v _=>∃ X,v=vPt X,fun vals v _=>v=vals 4,fun _ v _=>v=.int .i64 0]
  [⟨4,vPt,fun vals=>.cells (vals 3).cells 216⟩,⟨1,vSl 1,fun _=>.cells node0 194⟩,⟨2,vSl 1,fun _=>.cells #[.bool false] 4⟩]
  (by kernel_rfl) (by kernel_rfl) hS ?last ?ok ?mkd ?plain ?make ?fin
 case last=>(repeat' (first|exact trivial|apply And.intro)) <;> (first|exact (fun _ _ _ _ _ h=>h)|(intro vals vals' v J h e;  (simp only [zH,zI,List.forall_mem_cons] at h;simp_all)))
 case ok=>refine ⟨by simp,fun m hm=>?_⟩;simp only [List.mem_cons,List.not_mem_nil,or_false] at hm;(repeat' (rcases hm with rfl|hm)) <;> (try subst hm) <;> exact ⟨by decide,fun X=>rfl,fun vals vals' h=>by first|rfl|(simp only [zH,zI,List.forall_mem_cons] at h;simp_all)⟩
 case mkd =>
  intro m hm vals X J
  simp only [List.mem_cons,List.not_mem_nil,or_false] at hm
  rcases hm with rfl|rfl|rfl <;> exact ⟨X,rfl⟩
 case plain =>
  repeat' (first|exact trivial|apply And.intro)
  all_goals first|exact .inl rfl|skip
  all_goals
   refine .inr ?_
   intro vals J bs w hsub hg hJ hS
   first
   | (refine Veil.out ?_
      obtain ⟨A,hA⟩:∃ A,vals 1=vSl 1 A:=hg.get 1 (by decide)
      obtain ⟨T,hT⟩:∃ A,vals 2=vSl 1 A:=hg.get 2 (by decide)
      refine ⟨?_⟩
      have hg0:vals 0=.int .i64 room:=hg.get 0 (by decide)
      simp only [zH,zI,Given,Zm] at hg;simp only [Qd,Qh,Qe,Qj,zH,zI,zA,zB,zK,if_true,Act.put,zE,zF,zG,hg0,hA,hT];refine ⟨?_⟩;refine Qg (fun K hK=>?_);have HK:=yH hK;clear hK;rw [if_pos (by rfl)]
      go_wp2_with fail
      refine HK.out _ _ ⟨rfl,J,PH.le.refl _,hS,?_⟩
      clear HK
      simp only [Zm,Qo,zH,zI,zD,zC,zA,zB,zJ]
      rw [hA,hT])
   | (simp only [zH,zI,Given,Zm] at hg;simp only [Qd,Qh,Qe,Qj,zH,zI,zA,zB,zK,if_true,Act.put,zE,zF,zG,hg];refine ⟨?_⟩;refine Qg (fun K hK=>?_);have HK:=yH hK;clear hK;rw [if_pos (by rfl)];go_wp2_with fail;refine HK.out _ _ ⟨rfl,J,PH.le.refl _,hS,?_⟩;clear HK;simp only [Zm,Qo,zH,zI,zD,zC,zA,zB,zJ])
 case make =>
  clear hS
  intro m hm
  simp only [List.mem_cons,List.not_mem_nil,or_false] at hm
  rcases hm with rfl|rfl|rfl
  all_goals intro vals J bs w hsub hg hJ hS
  · simp only [zH,zI,Given,Zm] at hg;simp only [Qd,Qh,Qe,Qj,zH,zI,zA,zB,zK,if_true,Act.put,zE,zF,zG,hg];refine ⟨?_⟩;refine Qg (fun K hK=>?_);have HK:=yH hK;clear hK;rw [if_pos (by rfl)]
    refine wp_bx hS rfl rfl fun X w hS=>?_
    refine HK.out _ _ ⟨rfl,J,X,PH.le.refl _,?_,hS⟩
    simp only [Qo,Act.put,zE,zF,zG,zD,zC,zA,zB,zJ]
  · simp only [zH,zI,Given,Zm] at hg;simp only [Qd,Qh,Qe,Qj,zH,zI,zB,zK,if_true,Act.put,zE,zF,zG];refine ⟨?_⟩;refine Qg (fun K hK=>?_);have HK:=yH hK;clear hK;rw [if_pos (by rfl)]
    refine wp_mks hS rfl Tryz.underlying214 node_info rfl rfl rfl rfl (Nat.le_refl _) (by decide) (by decide) fun X w hS=>?_
    rw [made_node] at hS
    refine HK.out _ _ ⟨rfl,J,X,PH.le.refl _,?_,hS⟩
    simp only [Qo,Act.put,zE,zF,zG,zD,zC,zA,zB,zJ]
  · simp only [zH,zI,Given,Zm] at hg;simp only [Qd,Qh,Qe,Qj,zH,zI,zA,zB,zK,if_true,Act.put,zE,zF,zG];refine ⟨?_⟩;refine Qg (fun K hK=>?_);have HK:=yH hK;clear hK;rw [if_pos (by rfl)]
    refine wp_mks hS rfl Tryz.underlying24 bool_info rfl rfl rfl rfl (Nat.le_refl _) (by decide) (by decide) fun X w hS=>?_
    rw [made_bool] at hS
    refine HK.out _ _ ⟨rfl,J,X,PH.le.refl _,?_,hS⟩
    simp only [Qo,Act.put,zE,zF,zG,zD,zC,zA,zB,zJ]
 case fin =>
  clear hS
  intro vals J w hJ hg hS
  obtain ⟨A,hA⟩:∃ A,vals 1=vSl 1 A:=hg.get 1 (by decide)
  obtain ⟨T,hT⟩:∃ A,vals 2=vSl 1 A:=hg.get 2 (by decide)
  obtain ⟨X,hX⟩:∃ A,vals 4=vPt A:=hg.get 4 (by decide)
  have h3:vals 3=.agg #[.int .i64 room,vals 1,vals 2,.slice none 0 0,.int .i64 0]:=hg.get 3 (by decide)
  simp only [List.map_cons,List.map_nil,h3,hA,hT,hX,baseOf,List.cons_append,List.nil_append] at hS
  have hS:=hS.less hJ
  simp only [yB,yC,Nat.reduceAdd,Below_,Zm,zH,zI,true_and] at hg;simp only [yB,yC,Nat.reduceAdd,Qd,Qh,Qe,zA,zB,zK,if_true,Act.put,zE,zF,zG,hg];refine ⟨?_⟩
  go_wp2
  go_ret2
  exact ⟨X,A,T,congrArg (fun v=>Ending.returned (.tuple #[v,.int .i64 0])) hX,hS⟩
end
end Go.Proofs.YtidamcdklgfogaaGreat
