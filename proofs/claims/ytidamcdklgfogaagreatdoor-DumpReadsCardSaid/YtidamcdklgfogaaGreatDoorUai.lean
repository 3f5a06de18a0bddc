import Derived.Test.YtidamcdklgfogaaGreatDoorUah
import Derived.Maps.RangeRun
import Derived.ChangeKeysEq
set_option linter.unusedSectionVars false
set_option linter.unusedVariables false
set_option linter.unusedSimpArgs false
namespace Go.Proofs.YtidamcdklgfogaaGreatDoor
section
open Go.RowKit
structure Rw (α:Type) where
 k:α
 v:Value
 b:Nat
def Rw.ent {α:Type} (key:α->Value) (r:Rw α):MapEntry:=⟨key r.k,r.v,r.b⟩
def Qk {α:Type} (key:α->Value) (l:List (Rw α)) (clock:Nat):Obj:=.map (l.map (Rw.ent key)).toArray clock
section
variable {α:Type} [DecidableEq α]
def look (x:α):List (Rw α)->Nat->Option (Nat × Value)
 | [],_=>none
 | r::l,i=>if r.k=x then some (i,r.v) else look x l (i+1)
structure Key (P:Program) (kt:TypeId) (key:α->Value):Prop where
 check:∀ (w:World) (em:Bool) (x:α),(Instr.checkKey em 10000 kt (key x)).run P w=.ok () w
 find:∀ (w:World) (x:α) (l:List (Rw α)),(Instr.findKey kt (key x) (l.map (Rw.ent key))).run P w=.ok (look x l 0) w
 same:∀ x,Instr.sameBits 10000 (key x) (key x)=true
structure MapOk (l:List (Rw α)) (clock:Nat):Prop where
 keys:(l.map (·.k)).Nodup
 born:(l.map (·.b)).Nodup
 old:∀ r ∈ l,r.b<clock
def getR (l:List (Rw α)) (x:α):Option Value:=(l.find? (fun r=>decide (r.k=x))).map (·.v)
theorem look_get (x:α):∀ (l:List (Rw α)) (i:Nat),(look x l i).map (·.2)=getR l x
 | [],_=>rfl
 | r::l,i=>by
   unfold look getR;rw [List.find?_cons];by_cases h:r.k=x
   . simp [h]
   . have:=look_get x l (i+1)
     unfold getR at this;simp [h,this]
theorem look_none {x:α}:∀ {l:List (Rw α)} {i:Nat},look x l i=none↔∀ r ∈ l,r.k≠x
 | [],_=>by simp [look]
 | r::l,i=>by
   unfold look;by_cases h:r.k=x
   . simp [h]
   . simp [h,look_none (l:=l) (i:=i+1)]
theorem look_some {x:α} {j:Nat} {v:Value}:∀ {l:List (Rw α)} {i:Nat},look x l i=some (j,v)->i<=j/\∃ r,l[j - i]?=some r/\r.k=x/\r.v=v
 | [],_,h=>by simp [look] at h
 | r::l,i,h=>by
   unfold look at h;by_cases hk:r.k=x
   . rw [jAa hk] at h
     simp only [jEb,jQa] at h;obtain ⟨rfl,rfl⟩:=h;exact ⟨jBb _,r,by simp,hk,rfl⟩
   . rw [jAb hk] at h
     obtain ⟨h1,r',h2,h3,h4⟩:=look_some h;refine ⟨by omega,r',?_,h3,h4⟩;rw [show j - i=(j - (i+1))+1 by omega]
     simpa using h2
theorem getR_none {l:List (Rw α)} {x:α}:getR l x=none↔∀ r ∈ l,r.k≠x:=by
 rw [<- look_get x l 0];simp [look_none]
def putR (l:List (Rw α)) (x:α) (v:Value):List (Rw α):=l.map fun r=>if r.k=x then { r with v:=v } else r
def delR (l:List (Rw α)) (x:α):List (Rw α):=l.filter fun r=>decide (r.k≠x)
end
section
variable {P:Program} {w E:World} {I:PH} {ms:List PH}
theorem run_getObj {r:Nat} {o:Obj} (h:w.heap[r]?=some o) (hc:o.isCells=false):(getObj r).run P w=.ok o w:=by
 simp only [getObj,Sem.run,h];cases o <;> first|rfl|(cases hc)
theorem run_setObj_S {X:Nat} {o o':Obj} (h:w.heap[X]?=some o) (hc:o.isCells=false):(setObj X o').run P w=.ok () (ChangeMaps.setBlock w X o'):=by
 simp only [setObj,Sem.run,h,ChangeMaps.setBlock];cases o <;> first|rfl|(cases hc)
theorem setBlock_step {X:Nat} {o o':Obj} (h:Sat E I (PH.one X o::ms) w):Sat E I (PH.one X o'::ms) (ChangeMaps.setBlock w X o'):=by
 have hX:=h.own _ (.head _) X _ (PH.one_self _ _);have hlt:X<w.heap.size:=(jDa.1 hX).1;refine h.change (by simp [ChangeMaps.setBlock]) rfl rfl rfl (fun b _ hb=>?_) (fun b u hb=>?_) (fun b hb _=>?_)
 . have hne:b≠X:=by
     rintro rfl;rw [PH.one_self] at hb;cases hb
   simp [ChangeMaps.setBlock,Ne.symm hne]
 . obtain ⟨rfl,rfl⟩:=PH.one_some hb
   simp [ChangeMaps.setBlock,hlt]
 . unfold PH.one at hb ⊢
   split at hb
   . cases hb
   . rename_i hne;rw [jAb hne]
theorem MapOk.nil {α:Type} {clock:Nat}:MapOk ([]:List (Rw α)) clock:=⟨by simp,by simp,by simp⟩
theorem wp_mk {α:Type} {key:α->Value} {T:TypeId} {o:Oper} {a:Act} {K:Act->World->Prop} {Q:Exit->Act->World->Prop} (hS:Sat E I ms w) (ho:o.op=.makeMap T none)
  (h:∀ M w',Sat E I (PH.one M (Qk key ([]:List (Rw α)) 0)::ms) w'->K (a.put o.dst (.map (some M))) w'):o.wp P a w K Q:=by
 unfold Oper.wp execOp;simp only [ho,Instr.makeMap,newObj,Sem.run_bind,Sem.run_pure,Option.map_none];exact h _ _ (hS.alloc _)
end
section
variable {α:Type} [DecidableEq α] {P:Program} {w E:World} {I:PH} {ms:List PH} {key:α->Value} {kt et T:TypeId} {l:List (Rw α)} {clock M:Nat} {x:α}
theorem run_lookup_S (hk:Key P kt key) (ht:P.underlying T=some (.map kt et)) {z:Value} (hz:zeroB P et=some z) (hM:w.heap[M]?=some (Qk key l clock)) (c:Bool) :
  (Instr.lookup T (.map (some M)) (key x) c).run P w=.ok (if c=true then .tuple #[(getR l x).getD z,.bool (getR l x).isSome] else (getR l x).getD z) w:=by
 have h1:=hk.check w (l.map (Rw.ent key)).toArray.isEmpty x;have h2:=hk.find w x l;have h3:=look_get x l 0;have hz':(zeroValue et).run P w=.ok z w:=by
  have:=Xb hz;cases hq:P.info? et with
  | none=>rw [hq] at this;cases this
  | some i =>
    rw [hq] at this;have hi:i.zero=some z:=this;simp [zeroValue,typeInfo,hq,hi]
 unfold Instr.lookup;simp only [Sem.run_bind,run_underlying ht,Result.andThen_ok,run_getObj hM rfl,Qk,Sem.run_pure,h1,h2];rw [<- h3];cases hl:look x l 0 with
 | none=>simp [hz']
 | some jv=>obtain ⟨j,v⟩:=jv;simp
theorem putR_modify {v:Value} (hn:(l.map (·.k)).Nodup):∀ {i j:Nat} {u:Value},look x l i=some (j,u) ->
  (l.map (Rw.ent key)).modify (j - i) (fun e=>{ e with key:=key x,val:=v })=(putR l x v).map (Rw.ent key):=by
 induction l with
 | nil=>intro i j u h;simp [look] at h
 | cons r l ih =>
   intro i j u h;unfold look at h;have hn':=jUb.1 (by simpa using hn:(r.k::l.map (·.k)).Nodup);by_cases hk:r.k=x
   . rw [jAa hk] at h
     simp only [jEb,jQa] at h;obtain ⟨rfl,rfl⟩:=h;have hrest:putR l x v=l:=by
      unfold putR;refine (jWb (g:=id) fun r' hr'=>?_).trans (List.map_id _);rw [jAb]
      . rfl
      . intro e
        exact hn'.1 (hk.trans e.symm ▸ kRb hr')
     show _=(putR (r::l) x v).map _
     have e:putR (r::l) x v={ r with v:=v }::putR l x v:=by simp [putR,hk]
     rw [e,hrest];simp [Rw.ent,hk]
   . rw [jAb hk] at h
     have hij:=(look_some h).1;have e:putR (r::l) x v=r::putR l x v:=by simp [putR,hk]
     rw [e,show j - i=(j - (i+1))+1 by omega];simp only [jD,List.modify_succ_cons];rw [ih hn'.2 h]
theorem delR_erase (hn:(l.map (·.k)).Nodup):∀ {i j:Nat} {u:Value},look x l i=some (j,u)->(l.map (Rw.ent key)).eraseIdx (j - i)=(delR l x).map (Rw.ent key):=by
 induction l with
 | nil=>intro i j u h;simp [look] at h
 | cons r l ih =>
   intro i j u h;unfold look at h;have hn':=jUb.1 (by simpa using hn:(r.k::l.map (·.k)).Nodup);by_cases hk:r.k=x
   . rw [jAa hk] at h
     simp only [jEb,jQa] at h;obtain ⟨rfl,rfl⟩:=h;have hrest:delR l x=l:=by
      unfold delR;rw [List.filter_eq_self];intro r' hr'
      have:r'.k≠x:=by
       rintro rfl;exact hn'.1 (hk ▸ kRb hr')
      simpa using this
     have e:delR (r::l) x=delR l x:=by simp [delR,hk]
     rw [e,hrest];simp
   . rw [jAb hk] at h
     have hij:=(look_some h).1;have e:delR (r::l) x=r::delR l x:=by simp [delR,hk]
     rw [e,show j - i=(j - (i+1))+1 by omega];simp only [jD,List.eraseIdx_cons_succ];rw [ih hn'.2 h]
theorem delR_none (h:∀ r ∈ l,r.k≠x):delR l x=l:=by
 unfold delR;rw [List.filter_eq_self];intro r hr
 simpa using h r hr
theorem MapOk.push (h:MapOk l clock) (hx:getR l x=none) (v:Value):MapOk (l ++ [⟨x,v,clock⟩]) (clock+1):=by
 have hx':=getR_none.1 hx;refine ⟨?_,?_,fun r hr=>?_⟩
 . simp only [jH,jD,jTb]
   refine jZa.2 ⟨h.keys,by simp,fun a ha b hb=>?_⟩;obtain ⟨r,hr,rfl⟩:=jF.1 ha;simp at hb;subst hb
   exact hx' r hr
 . simp only [jH,jD,jTb]
   refine jZa.2 ⟨h.born,by simp,fun a ha b hb=>?_⟩;obtain ⟨r,hr,rfl⟩:=jF.1 ha;simp at hb;subst hb
   have:=h.old r hr;omega
 . rcases jIa.1 hr with hr|hr
   . have:=h.old r hr;omega
   . simp at hr;subst hr;simp
theorem MapOk.put (h:MapOk l clock) (v:Value):MapOk (putR l x v) clock:=by
 have e1:(putR l x v).map (·.k)=l.map (·.k):=by
  unfold putR;rw [jW];refine jWb fun r _=>?_
  by_cases hk:r.k=x <;> simp [hk]
 have e2:(putR l x v).map (·.b)=l.map (·.b):=by
  unfold putR;rw [jW];refine jWb fun r _=>?_
  by_cases hk:r.k=x <;> simp [hk]
 refine ⟨e1 ▸ h.keys,e2 ▸ h.born,fun r hr=>?_⟩;obtain ⟨r',hr',rfl⟩:=jF.1 hr
 have:=h.old r' hr';by_cases hk:r'.k=x <;> simp [hk,this]
theorem MapOk.del (h:MapOk l clock):MapOk (delR l x) clock :=
 ⟨h.keys.sublist ((kS).map _),h.born.sublist ((kS).map _),fun r hr=>h.old r (jRb.1 hr).1⟩
end
section
variable {α:Type} [DecidableEq α] {P:Program} {o:Oper} {a:Act} {w E:World} {K:Act->World->Prop} {Q:Exit->Act->World->Prop} {I:PH} {ms:List PH} {ops:Array Oper} {rest:List Oper}
 {key:α->Value} {kt et T:TypeId} {l:List (Rw α)} {clock M:Nat} {x:α}
theorem wp_lk {p:PH} (hp:p.le (Qa w)) (hpM:p M=some (Qk key l clock)) (hk:Key P kt key) (ht:P.underlying T=some (.map kt et)) {z:Value} (hz:zeroB P et=some z) {m y:Operand} {c:Bool} (ho:o.op=.lookup T m y c)
  (hm:a.eval m=.map (some M)) (hy:a.eval y=key x) (h:K (a.put o.dst (if c=true then .tuple #[(getR l x).getD z,.bool (getR l x).isSome] else (getR l x).getD z)) w):o.wp P a w K Q:=by
 have hM:w.heap[M]?=some (Qk key l clock):=hp M _ hpM;unfold Oper.wp execOp;simp only [ho,hm,hy,Sem.run_bind,run_lookup_S hk ht hz hM c,Result.andThen_ok,Sem.run_pure];exact h
end
end
section
open Go.RowKit
section
variable {α:Type} [DecidableEq α] {P:Program} {w:World} {key:α->Value} {kt et T:TypeId} {l:List (Rw α)} {clock M:Nat} {x:α} {v:Value}
theorem look_at {j:Nat} {u:Value} (h:look x l 0=some (j,u)):∃ r,l[j]?=some r/\r.k=x/\r.v=u:=(look_some h).2
theorem run_update_S (hk:Key P kt key) (ht:P.underlying T=some (.map kt et)) (hM:w.heap[M]?=some (Qk key l clock)) (hn:(l.map (·.k)).Nodup) :
  (Instr.mapUpdate T (.map (some M)) (key x) v).run P w=.ok () (ChangeMaps.setBlock w M (if (getR l x).isSome=true then Qk key (putR l x v) clock else Qk key (l ++ [⟨x,v,clock⟩]) (clock+1))):=by
 have h1:=hk.check w false x;have h2:=hk.find w x l;have h3:=look_get x l 0;unfold Instr.mapUpdate;simp only [Sem.run_bind,run_underlying ht,Result.andThen_ok,run_getObj hM rfl,Qk,h1,h2];rw [<- h3];cases hl:look x l 0 with
 | none =>
   simp only [Option.map_none,Option.isSome_none];rw [run_setObj_S hM rfl];simp [Rw.ent]
 | some jv =>
   obtain ⟨j,u⟩:=jv;obtain ⟨r,hr,hrk,hrv⟩:=look_at hl;have hm:=putR_modify (key:=key) (v:=v) hn hl;have hke:((((l.map (Rw.ent key)).toArray[j]?).map (·.key)).getD (key x))=key x:=by
    simp [hr,Rw.ent,hrk]
   have hst:∀ u:Value,Instr.keyThatStays (key x) (key x)=pure (key x):=fun _=>by
    unfold Instr.keyThatStays;rw [jAa (hk.same x)]
   simp only [Sem.run_bind,hke,hst v,Sem.run_pure,Result.andThen_ok,Option.map_some,Option.isSome_some,jC];rw [run_setObj_S hM rfl]
   have:((l.map (Rw.ent key)).toArray.modify j fun e=>{ e with key:=key x,val:=v })=((putR l x v).map (Rw.ent key)).toArray:=by
    rw [<- hm];simp
   rw [this]
theorem run_delete_S (hk:Key P kt key) (ht:P.underlying T=some (.map kt et)) {K2 ty:TypeId} (hM:w.heap[M]?=some (Qk key l clock)) (hn:(l.map (·.k)).Nodup) :
  (Builtin.delete_ #[T,K2] ty #[.map (some M),key x]).run P w=.ok (.tuple #[]) (ChangeMaps.setBlock w M (Qk key (delR l x) clock)):=by
 have h1:=hk.check w (l.map (Rw.ent key)).toArray.isEmpty x;have h2:=hk.find w x l;simp only [Builtin.delete_,zC,zB,zA,Sem.run_bind,run_underlying ht,Result.andThen_ok,run_getObj hM rfl,Qk,h1,h2];cases hl:look x l 0 with
 | none =>
   rw [delR_none (look_none.1 hl)];simp only [Sem.run_bind];rw [run_setObj_S hM rfl];simp
 | some jv =>
   obtain ⟨j,u⟩:=jv;have hm:=delR_erase (key:=key) hn hl;simp only [Sem.run_bind];rw [run_setObj_S hM rfl]
   have:(l.map (Rw.ent key)).toArray.eraseIdxIfInBounds j=((delR l x).map (Rw.ent key)).toArray:=by
    rw [<- hm];simp
   rw [this];simp
end
section
variable {α:Type} {P:Program} {w:World} {key:α->Value} {kt et T ty:TypeId} {l:List (Rw α)} {clock M:Nat}
end
section
variable {α:Type} [DecidableEq α] {P:Program} {o:Oper} {a:Act} {w E:World} {K:Act->World->Prop} {Q:Exit->Act->World->Prop} {I:PH} {ms:List PH} {ops:Array Oper} {rest:List Oper}
 {key:α->Value} {kt et T:TypeId} {l:List (Rw α)} {clock M:Nat} {x:α} {v:Value}
theorem wp_mu (hS:Sat E I ms w) (k:Nat) (hm:ms[k]?=some (PH.one M (Qk key l clock))) (hk:Key P kt key) (ht:P.underlying T=some (.map kt et)) {m y z:Operand} (ho:o.op=.mapUpdate T m y z)
  (hem:a.eval m=.map (some M)) (hy:a.eval y=key x) (hz:a.eval z=v) (hn:MapOk l clock)
  (h:∀ w',Sat E I (ms.set k (PH.one M (if (getR l x).isSome=true then Qk key (putR l x v) clock else Qk key (l ++ [⟨x,v,clock⟩]) (clock+1)))) w'->K (a.put o.dst undef) w'):o.wp P a w K Q:=by
 have h0:=hS.perm (Kg k hm);unfold Oper.wp execOp;simp only [ho,hem,hy,hz,Sem.run_bind,run_update_S hk ht (h0.own _ (.head _) M _ (PH.one_self _ _)) hn.keys,Result.andThen_ok,Sem.run_pure];exact h _ ((setBlock_step h0).perm (Ko k hm))
theorem wp_dl (hS:Sat E I ms w) (k:Nat) (hm:ms[k]?=some (PH.one M (Qk key l clock))) (hk:Key P kt key) (ht:P.underlying T=some (.map kt et)) {m y:Operand} {K2:TypeId} (ho:o.op=.call { callee:=.builtin .delete,args := #[m,y],argTypes := #[T,K2] })
  (hem:a.eval m=.map (some M)) (hy:a.eval y=key x) (hn:MapOk l clock)
  (h:∀ w',Sat E I (ms.set k (PH.one M (Qk key (delR l x) clock))) w'->K (a.put o.dst (.tuple #[])) w'):o.wp P a w K Q:=by
 have h0:=hS.perm (Kg k hm);unfold Oper.wp execOp;simp only [ho,resolve,invoke,builtin,Sem.run_bind,Sem.run_pure,Result.andThen_ok,kQb,jD,jTb,hem,hy,run_delete_S hk ht (h0.own _ (.head _) M _ (PH.one_self _ _)) hn.keys];exact h _ ((setBlock_step h0).perm (Ko k hm))
def Xp (M since:Nat) (done:List (Rw α)) (last:Nat):Obj:=.mapIter (some M) since (done.map (·.b)).toArray last
theorem wp_rg (hS:Sat E I ms w) {p:PH} (hp:p.le (Qa w)) (hpM:p M=some (Qk key l clock)) (ht:P.underlying T=some (.map kt et)) {m:Operand} (ho:o.op=.range T m) (hem:a.eval m=.map (some M))
  (h:∀ X w',Sat E I (PH.one X (Xp M clock ([]:List (Rw α)) clock)::ms) w'->K (a.put o.dst (.pointer (some ⟨X,0,none⟩))) w'):o.wp P a w K Q:=by
 unfold Oper.wp execOp;simp only [ho,hem,Instr.range,Sem.run_bind,run_underlying ht,Result.andThen_ok,run_getObj (hp M _ hpM) rfl,Qk,Sem.run_pure,newObj];exact h _ _ (hS.alloc _)
theorem wp_nx (hS:Sat E I ms w) (k:Nat) {R:Nat} {done left:List (Rw α)} (hm:ms[k]?=some (PH.one R (Xp M clock done clock))) {p:PH} (hp:Src I ms p) (hpM:p M=some (Qk key l clock))
  (hok:MapOk l clock) (hperm:(done ++ left).Perm l) {it:Operand} (ho:o.op=.next it false) (hit:a.eval it=.pointer (some ⟨R,0,none⟩))
  (hdone:left=[]->K (a.put o.dst (.tuple #[.bool false])) w)
  (hmore:∀ r left' w',left.Perm (r::left')->r ∈ l->Sat E I (ms.set k (PH.one R (Xp M clock (done ++ [r]) clock))) w'->K (a.put o.dst (.tuple #[.bool true,key r.k,r.v])) w'):o.wp P a w K Q:=by
 have h0:=hS.perm (Kg k hm);have hR:=h0.own _ (.head _) R _ (PH.one_self _ _);have hM:=hS.src hp M _ hpM;have hn:=hok.born;have hleft:∀ r ∈ l,((done.map (·.b)).toArray.contains r.b=false↔r ∈ left):=fun r hr=>by
  have hnd:((done ++ left).map (·.b)).Nodup:=(hperm.map (·.b)).nodup_iff.2 hn;rw [jH] at hnd;have hmem:=hperm.mem_iff.2 hr;have hc:(done.map (·.b)).toArray.contains r.b=true↔r.b ∈ done.map (·.b):=by simp
  constructor
  . intro h
    rcases jIa.1 hmem with h1|h1
    . have:=hc.2 (kRb h1)
      rw [this] at h;cases h
    . exact h1
  . intro h
    cases hb:(done.map (·.b)).toArray.contains r.b with
    | false=>rfl
    | true =>
      have h1:=hc.1 hb;exact absurd rfl ((jZa.1 hnd).2.2 r.b h1 r.b (kRb h))
 have hfl:(leftOf (l.map (Rw.ent key)).toArray (done.map (·.b)).toArray).toList=(l.filter fun r=>!(done.map (·.b)).toArray.contains r.b).map (Rw.ent key):=by
  unfold leftOf;rw [Array.toList_filter,List.toList_toArray,List.filter_map];rfl
 unfold Oper.wp execOp;simp only [ho,hit,Sem.run_bind];rcases run_next_at (P:=P) w o.type R M clock clock (done.map Rw.b).toArray (l.map (Rw.ent key)).toArray clock hR hM (fun e he=>by
  simp only [jF] at he;obtain ⟨r,hr,rfl⟩:=he;exact hok.old r hr) (jBb _) with ⟨h1,h2⟩|⟨e,he,w1,hw1,h2⟩
 . rw [h2]
   refine hdone ?_;have h3:(l.filter fun r=>!(done.map (·.b)).toArray.contains r.b)=[]:=by
    have:((l.filter fun r=>!(done.map (·.b)).toArray.contains r.b).map (Rw.ent key)).length=0:=by rw [<- hfl,Array.length_toList];exact h1
    exact jJa (by rw [jHb] at this;exact this)
   refine kTb.2 fun r hr=>?_
   have hrl:=hperm.mem_iff.1 (kDb _ hr)
   have:=(hleft r hrl).2 hr;have h4:=kU.1 h3 r hrl;rw [this] at h4;exact h4 rfl
 . rw [hfl] at he
   obtain ⟨r,hr,rfl⟩:=jF.1 he;obtain ⟨hrl,hrb⟩:=jRb.1 hr;have hrb':(done.map (·.b)).toArray.contains r.b=false:=by simpa using hrb
   have hrm:=(hleft r hrl).1 hrb';obtain ⟨s,t,hst⟩:=List.append_of_mem hrm;rw [h2];refine hmore r (s ++ t) _ (hst ▸ jTa) hrl ?_;have h1:Sat E I (PH.one R (Xp M clock done clock)::ms.eraseIdx k) w1:=by
    rcases hw1 with rfl|rfl
    . exact h0
    . exact h0.drew
   have h3:=(setBlock_step (o':=Xp M clock (done ++ [r]) clock) h1).perm (Ko k hm)
   simpa [Xp,Rw.ent] using h3
theorem wp_en {R:Nat} {done:List (Rw α)} {r:Rw α} {p q:PH} (hq:q.le (Qa w)) (hqR:q R=some (Xp M clock (done ++ [r]) clock)) (hp:p.le (Qa w)) (hpM:p M=some (Qk key l clock))
  (hok:MapOk l clock) (hr:r ∈ l) {it:Operand} (ho:o.op=.entry it) (hit:a.eval it=.pointer (some ⟨R,0,none⟩))
  (h:K (a.put o.dst (.tuple #[key r.k,r.v])) w):o.wp P a w K Q:=by
 have hR:w.heap[R]?=some (.mapIter (some M) clock ((done.map (·.b)).toArray.push (Rw.ent key r).born) clock):=by
  have:=hq R _ hqR;rw [show w.heap[R]?=_ from this];simp [Xp,Rw.ent]
 have hM:=hp M _ hpM
 have:=run_entry_at (P:=P) w R M clock (done.map (·.b)).toArray (l.map (Rw.ent key)).toArray clock (Rw.ent key r) hR hM (by simpa using ⟨r,hr,rfl⟩) (by
  have:=hok.born
  simpa [Rw.ent,Function.comp_def] using this)
 unfold Oper.wp execOp;simp only [ho,hit,Sem.run_bind,this,Result.andThen_ok,Sem.run_pure];exact h
end
end
section
open Go.RowKit
section
variable {α:Type} [DecidableEq α] {P:Program} {o:Oper} {a:Act} {w E:World} {Q:Exit->Act->World->Prop} {I:PH} {ms:List PH} {ops:Array Oper} {rest:List Oper}
 {key:α->Value} {kt et T:TypeId} {l:List (Rw α)} {clock M:Nat} {x:α} {v:Value}
theorem Kz {dst:Option Tmp} {type:TypeId} {pos:String} {after:Array Edge} {T:TypeId} {m y:Operand} {c:Bool} (h:wpList P ops Q (⟨dst,.lookup T m y c,type,pos,after,none⟩::rest) a w):wpList P ops Q (⟨dst,.lookup T m y c,type,pos,after,none⟩::rest) a w:=h
theorem isUpdate {dst:Option Tmp} {type:TypeId} {pos:String} {after:Array Edge} {T:TypeId} {m y z:Operand} (h:wpList P ops Q (⟨dst,.mapUpdate T m y z,type,pos,after,none⟩::rest) a w):wpList P ops Q (⟨dst,.mapUpdate T m y z,type,pos,after,none⟩::rest) a w:=h
theorem isRange {dst:Option Tmp} {type:TypeId} {pos:String} {after:Array Edge} {T:TypeId} {m:Operand} (h:wpList P ops Q (⟨dst,.range T m,type,pos,after,none⟩::rest) a w):wpList P ops Q (⟨dst,.range T m,type,pos,after,none⟩::rest) a w:=h
theorem isNext {dst:Option Tmp} {type:TypeId} {pos:String} {after:Array Edge} {m:Operand} (h:wpList P ops Q (⟨dst,.next m false,type,pos,after,none⟩::rest) a w):wpList P ops Q (⟨dst,.next m false,type,pos,after,none⟩::rest) a w:=h
theorem isEntry {dst:Option Tmp} {type:TypeId} {pos:String} {after:Array Edge} {m:Operand} (h:wpList P ops Q (⟨dst,.entry m,type,pos,after,none⟩::rest) a w):wpList P ops Q (⟨dst,.entry m,type,pos,after,none⟩::rest) a w:=h
theorem isMakeMap {dst:Option Tmp} {type:TypeId} {pos:String} {after:Array Edge} {T:TypeId} (h:wpList P ops Q (⟨dst,.makeMap T none,type,pos,after,none⟩::rest) a w):wpList P ops Q (⟨dst,.makeMap T none,type,pos,after,none⟩::rest) a w:=h
theorem isDelete {dst:Option Tmp} {type:TypeId} {pos:String} {after:Array Edge} {m y:Operand} {t t':TypeId} (h:wpList P ops Q (⟨dst,.call { callee:=.builtin .delete,args := #[m,y],argTypes := #[t,t'] },type,pos,after,none⟩::rest) a w) :
 wpList P ops Q (⟨dst,.call { callee:=.builtin .delete,args := #[m,y],argTypes := #[t,t'] },type,pos,after,none⟩::rest) a w:=h
theorem lk2 {p:PH} (hS:Sat E I ms w) (hp:Src I ms p) (hpM:p M=some (Qk key l clock)) (hk:Key P kt key) (ht:P.underlying T=some (.map kt et)) {z:Value} (hz:zeroB P et=some z) (hg:o.guard=none) {m y:Operand} (ho:o.op=.lookup T m y true)
  (hm:a.eval m=.map (some M)) (hy:a.eval y=key x) {q:Option Value} (hq:getR l x=q) (h:wpList P ops Q rest (a.put o.dst (.tuple #[q.getD z,.bool q.isSome])) w):wpList P ops Q (o::rest) a w :=
 wpList_plain hg fun _ hK=>wp_lk (hS.src hp) hpM hk ht hz ho hm hy (hK _ _ (by rw [jAa rfl,hq];exact h))
theorem lk1 {p:PH} (hS:Sat E I ms w) (hp:Src I ms p) (hpM:p M=some (Qk key l clock)) (hk:Key P kt key) (ht:P.underlying T=some (.map kt et)) {z:Value} (hz:zeroB P et=some z) (hg:o.guard=none) {m y:Operand} (ho:o.op=.lookup T m y false)
  (hm:a.eval m=.map (some M)) (hy:a.eval y=key x) {q:Option Value} (hq:getR l x=q) (h:wpList P ops Q rest (a.put o.dst (q.getD z)) w):wpList P ops Q (o::rest) a w :=
 wpList_plain hg fun _ hK=>wp_lk (hS.src hp) hpM hk ht hz ho hm hy (hK _ _ (by rw [jAb (by simp),hq];exact h))
theorem muNew (hS:Sat E I ms w) (k:Nat) (hm:ms[k]?=some (PH.one M (Qk key l clock))) (hk:Key P kt key) (ht:P.underlying T=some (.map kt et)) (hg:o.guard=none) {m y z:Operand} (ho:o.op=.mapUpdate T m y z)
  (hem:a.eval m=.map (some M)) (hy:a.eval y=key x) (hz:a.eval z=v) (hn:MapOk l clock) (hx:getR l x=none)
  (h:∀ w',Sat E I (ms.set k (PH.one M (Qk key (l ++ [⟨x,v,clock⟩]) (clock+1)))) w'->wpList P ops Q rest (a.put o.dst undef) w'):wpList P ops Q (o::rest) a w :=
 wpList_plain hg fun _ hK=>wp_mu hS k hm hk ht ho hem hy hz hn fun w' hS'=>hK _ _ (h w' (by rw [hx] at hS';exact hS'))
theorem dl (hS:Sat E I ms w) (k:Nat) (hm:ms[k]?=some (PH.one M (Qk key l clock))) (hk:Key P kt key) (ht:P.underlying T=some (.map kt et)) (hg:o.guard=none) {m y:Operand} {K2:TypeId} (ho:o.op=.call { callee:=.builtin .delete,args := #[m,y],argTypes := #[T,K2] })
  (hem:a.eval m=.map (some M)) (hy:a.eval y=key x) (hn:MapOk l clock)
  (h:∀ w',Sat E I (ms.set k (PH.one M (Qk key (delR l x) clock))) w'->wpList P ops Q rest (a.put o.dst (.tuple #[])) w'):wpList P ops Q (o::rest) a w :=
 wpList_plain hg fun _ hK=>wp_dl hS k hm hk ht ho hem hy hn fun w' hS'=>hK _ _ (h w' hS')
theorem mkM (key:α->Value) (hS:Sat E I ms w) (hg:o.guard=none) (ho:o.op=.makeMap T none)
  (h:∀ M w',Sat E I (PH.one M (Qk key ([]:List (Rw α)) 0)::ms) w'->wpList P ops Q rest (a.put o.dst (.map (some M))) w'):wpList P ops Q (o::rest) a w :=
 wpList_plain hg fun _ hK=>wp_mk hS ho fun M w' hS'=>hK _ _ (h M w' hS')
theorem rgM {p:PH} (hS:Sat E I ms w) (hp:Src I ms p) (hpM:p M=some (Qk key l clock)) (ht:P.underlying T=some (.map kt et)) (hg:o.guard=none) {m:Operand} (ho:o.op=.range T m) (hem:a.eval m=.map (some M))
  (h:∀ X w',Sat E I (PH.one X (Xp M clock ([]:List (Rw α)) clock)::ms) w'->wpList P ops Q rest (a.put o.dst (.pointer (some ⟨X,0,none⟩))) w'):wpList P ops Q (o::rest) a w :=
 wpList_plain hg fun _ hK=>wp_rg hS (hS.src hp) hpM ht ho hem fun X w' hS'=>hK _ _ (h X w' hS')
theorem nxM (hS:Sat E I ms w) (k:Nat) {R:Nat} {done left:List (Rw α)} (hm:ms[k]?=some (PH.one R (Xp M clock done clock))) {p:PH} (hp:Src I ms p) (hpM:p M=some (Qk key l clock))
  (hok:MapOk l clock) (hperm:(done ++ left).Perm l) (hg:o.guard=none) {it:Operand} (ho:o.op=.next it false) (hit:a.eval it=.pointer (some ⟨R,0,none⟩))
  (hdone:left=[]->wpList P ops Q rest (a.put o.dst (.tuple #[.bool false])) w)
  (hmore:∀ r left' w',left.Perm (r::left')->r ∈ l->Sat E I (ms.set k (PH.one R (Xp M clock (done ++ [r]) clock))) w'->wpList P ops Q rest (a.put o.dst (.tuple #[.bool true,key r.k,r.v])) w'):wpList P ops Q (o::rest) a w :=
 wpList_plain hg fun _ hK=>wp_nx hS k hm hp hpM hok hperm ho hit (fun h0=>hK _ _ (hdone h0)) fun r left' w' h1 h2 h3=>hK _ _ (hmore r left' w' h1 h2 h3)
theorem enM (hS:Sat E I ms w) {R:Nat} {done:List (Rw α)} {r:Rw α} {p q:PH} (hq:Src I ms q) (hqR:q R=some (Xp M clock (done ++ [r]) clock)) (hp:Src I ms p) (hpM:p M=some (Qk key l clock))
  (hok:MapOk l clock) (hr:r ∈ l) (hg:o.guard=none) {it:Operand} (ho:o.op=.entry it) (hit:a.eval it=.pointer (some ⟨R,0,none⟩))
  (h:wpList P ops Q rest (a.put o.dst (.tuple #[key r.k,r.v])) w):wpList P ops Q (o::rest) a w :=
 wpList_plain hg fun _ hK=>wp_en (hS.src hq) hqR (hS.src hp) hpM hok hr ho hit (hK _ _ h)
end
def ekey (x:Int × Int):Value:=.agg #[.int .i64 x.1,.int .i64 x.2]
section
variable {P:Program} {kt e:TypeId}
theorem eq_ekey (hu:P.underlying kt=some (.array 2 e)) (he:P.underlying e=some (.int .i64)) (hi:(P.info? e).isSome=true) (hc:P.cellsOf e=1) (w:World) (x y:Int × Int):(Op.equal kt (ekey x) (ekey y)).run P w=.ok (decide (x=y)) w:=by
 obtain ⟨i,hi⟩:=yF.1 hi;obtain ⟨a,b⟩:=x;obtain ⟨c,d⟩:=y;unfold Op.equal Op.maxDepth ekey;rw [show (10000:Nat)=9999+1 from rfl,run_equalIn_array w 9999 _ _ hu hi,hc];have hA:∀ w,(isAgg e).run P w=.ok false w:=fun w=>by simp [isAgg,run_underlying he]
 have hE:∀ (w:World) (a b:Int),(Op.equalIn 9999 e (.int .i64 a) (.int .i64 b)).run P w=.ok (a == b) w:=fun w a b=>by
  rw [show (9999:Nat)=9998+1 from rfl];unfold Op.equalIn;simp only [Sem.run_bind,run_underlying he,Result.andThen_ok,jC,Sem.run_pure]
 simp only [show List.range 2=[0,1] from rfl,Op.eqItems];by_cases h1:a=c <;> by_cases h2:b=d <;> simp [h1,h2,part,hA,hE,jQa]
theorem check_ekey (hu:P.underlying kt=some (.array 2 e)) (he:P.underlying e=some (.int .i64)) (hi:(P.info? e).isSome=true) (hc:P.cellsOf e=1) (w:World) (em:Bool) (x:Int × Int):(Instr.checkKey em 10000 kt (ekey x)).run P w=.ok () w:=by
 obtain ⟨i,hi⟩:=yF.1 hi;obtain ⟨a,b⟩:=x;have hc':=hc;have hsz:=run_sizeOf w hi;rw [hc'] at hsz;unfold ekey;rw [show (10000:Nat)=9999+1 from rfl];have hA:∀ w,(isAgg e).run P w=.ok false w:=fun w=>by simp [isAgg,run_underlying he]
 have hC:∀ (w:World) (a:Int),(Instr.checkKey em 9999 e (.int .i64 a)).run P w=.ok () w:=fun w a=>by
  rw [show (9999:Nat)=9998+1 from rfl];unfold Instr.checkKey;simp only [Sem.run_bind,run_underlying he,Result.andThen_ok,Sem.run_pure]
 rw [Instr.checkKey];simp only [Sem.run_bind,run_underlying hu,Result.andThen_ok];simp only [Std.Legacy.Range.forIn_eq_forIn_range',Std.Legacy.Range.size,Nat.sub_zero,Nat.add_one_sub_one,Nat.div_one,show List.range' 0 2=[0,1] from rfl];simp [List.forIn_cons,hsz,part,hA,hC]
theorem find_asking {α:Type} [DecidableEq α] {key:α->Value} (heq:∀ (w:World) (x y:α),(Op.equal kt (key x) (key y)).run P w=.ok (decide (x=y)) w) (w:World) (x:α):∀ (l:List (Rw α)) (i:Nat),(Instr.findAsking kt (key x) (l.map (Rw.ent key)) i).run P w=.ok (look x l i) w
 | [],_=>by simp [Instr.findAsking,look]
 | r::l,i=>by
   simp only [jD,Instr.findAsking,Sem.run_bind,Rw.ent,heq,Result.andThen_ok];unfold look;by_cases h:r.k=x
   . simp [h]
   . rw [jAb h]
     have:¬ x=r.k:=fun e=>h e.symm
     simp only [jJb this,jE,jS];exact find_asking heq w x l (i+1)
theorem key_ekey (hu:P.underlying kt=some (.array 2 e)) (he:P.underlying e=some (.int .i64)) (hi:(P.info? e).isSome=true) (hc:P.cellsOf e=1):Key P kt ekey where
 check w em x:=check_ekey hu he hi hc w em x
 find w x l:=by
  unfold Instr.findKey;simp only [Sem.run_bind,run_underlying hu,Result.andThen_ok];cases l with
  | nil=>simp [Instr.findNow,look]
  | cons r l =>
    simp only [jD,Rw.ent,Instr.findNow,Instr.sameNow,ekey];exact find_asking (eq_ekey hu he hi hc) w x (r::l) 0
 same x:=by simp [ekey,Instr.sameBits]
end
end
section
open Go.RowKit
def ikey (x:Int):Value:=.int .i64 x
section
variable {P:Program} {kt:TypeId}
theorem key_int (hu:P.underlying kt=some (.int .i64)):Key P kt ikey where
 check w em x:=by
  unfold ikey;rw [show (10000:Nat)=9999+1 from rfl];unfold Instr.checkKey;simp only [Sem.run_bind,run_underlying hu,Result.andThen_ok,Sem.run_pure]
 find w x l:=by
  have key:∀ (l:List (Rw Int)) (i:Nat),Instr.findNow (.int .i64) (ikey x) (l.map (Rw.ent ikey)) i=some (look x l i):=by
   intro l
   induction l with
   | nil=>intro i;rfl
   | cons r l ih =>
     intro i;have hs:Instr.sameNow (.int .i64) (ikey x) (ikey r.k)=some (x == r.k):=by
      simp [Instr.sameNow,ikey]
     simp only [jD,Instr.findNow,Rw.ent,hs,look];by_cases h:r.k=x
     . subst h;simp
     . rw [jAb h,show (x == r.k)=false by rw [jGa];exact fun e=>h e.symm]
       exact ih (i+1)
  unfold Instr.findKey;simp only [Sem.run_bind,run_underlying hu,Result.andThen_ok,key,Sem.run_pure]
 same x:=by simp [ikey,Instr.sameBits]
end
section
variable {P:Program} {o:Oper} {a:Act} {w E:World} {K:Act->World->Prop} {Q:Exit->Act->World->Prop} {I:PH} {ms:List PH} {ops:Array Oper} {rest:List Oper}
variable {α:Type} [DecidableEq α] {key:α->Value} {kt et T:TypeId} {M:Nat} {l:List (Rw α)} {clock:Nat} {x:α} {v:Value}
theorem inNew (hS:Sat E I ms w) (k:Nat) (hm:ms[k]?=some (PH.one M (Qk key l clock))) (hk:Key P kt key) (ht:P.underlying T=some (.map kt et)) (hg:o.guard=none) {m y z:Operand} (ho:o.op=.insert T m y z)
  (hem:a.eval m=.map (some M)) (hy:a.eval y=key x) (hz:a.eval z=v) (hn:MapOk l clock) (hx:getR l x=none)
  (h:∀ w',Sat E I (ms.set k (PH.one M (Qk key (l ++ [⟨x,v,clock⟩]) (clock+1)))) w'->wpList P ops Q rest (a.put o.dst undef) w'):wpList P ops Q (o::rest) a w :=
 wpList_plain hg fun _ hK=>by
  have h0:=hS.perm (Kg k hm);unfold Oper.wp execOp;simp only [ho,hem,hy,hz,Sem.run_bind,run_update_S hk ht (h0.own _ (.head _) M _ (PH.one_self _ _)) hn.keys,Result.andThen_ok,Sem.run_pure,hx];exact hK _ _ (h _ ((setBlock_step h0).perm (Ko k hm)))
end
theorem isInsert {P:Program} {a:Act} {w:World} {Q:Exit->Act->World->Prop} {ops:Array Oper} {rest:List Oper} {dst:Option Tmp} {type:TypeId} {pos:String} {after:Array Edge} {T:TypeId} {m y z:Operand} (h:wpList P ops Q (⟨dst,.insert T m y z,type,pos,after,none⟩::rest) a w):wpList P ops Q (⟨dst,.insert T m y z,type,pos,after,none⟩::rest) a w:=h
end
section
open Go.RowKit
def baseOf:Value->Nat
 | .slice (some a) _ _=>a.block
 | .pointer (some a)=>a.block
 | .map (some M)=>M
 | _=>0
abbrev VF:=(Nat->Value)->Value->PH->Prop
def Kx (Ds:List VF) (k:Nat):VF:=Ds.getD k (fun _ _ _=>True)
def VLoc (l:List Nat) (d:VF):Prop:=∀ vals vals' v J,(∀ j ∈ l,vals j=vals' j)->d vals v J->d vals' v J
def VLasting (A:List (List Nat)):List VF->Nat->Prop
 | [],_=>True
 | d::Ds,k=>((∀ vals v I J,PH.le I J->d vals v I->d vals v J)/\VLoc (A.getD k []) d)/\VLasting A Ds (k+1)
theorem VLasting.get {A:List (List Nat)}:∀ {Ds:List VF} {n:Nat},VLasting A Ds n->∀ k,(∀ vals v I J,PH.le I J->Kx Ds k vals v I->Kx Ds k vals v J)/\VLoc (A.getD (n+k) []) (Kx Ds k)
 | [],_,_,_=>⟨fun _ _ _ _ _ h=>h,fun _ _ _ _ _ h=>h⟩
 | d::Ds,n,h,0=>h.1
 | d::Ds,n,h,k+1=>by
   have:=(VLasting.get h.2 k);rw [show n+1+k=n+(k+1) by omega] at this;exact this
theorem region_v {P:Program} {id:Nat} {ops:List Oper} {Q:Exit->Act->World->Prop} {a:Act} {w:World} (A:List (List Nat)) (E:World) (I:PH) (ms:List PH) (Ds:List VF)
  (MS:(Nat->Bool)->(Nat->Value)->PH->List PH->Prop)
  (hm:P.follows .mixedOrders=true) (chk:ogOk ops A a.tmps.size=true) (hS:Sat E I ms w) (hMS:MS (fun _=>false) (fun _=>undef) I ms) (lasting:VLasting A Ds 0)
  (step:Below_ (fun i=>∀ (L:Nat->Bool) (vals:Nat->Value) (J:PH) (ns:List PH) (w':World),L i=false->(∀ j,j<ops.length->L j=true->∀ k ∈ A.getD j [],L k=true)->(∀ j ∈ A.getD i [],L j=true)->Given (fun j=>Kx Ds j vals (vals j) J) (A.getD i [])->I.le J->Sat E J ns w'->MS L vals J ns ->
    Veil0 (Zi P ops (Qf ops i) (fun a' w''=>a'.defers=a.defers/\∃ (J':PH) (ns':List PH),J.le J'/\Sat E J' ns' w''/\Kx Ds i vals (Qh (Qf ops i) a') J'/\MS (upd L i true) (upd vals i (Qh (Qf ops i) a')) J' ns') (Qb ops vals a i) w')) ops.length)
  (fin:∀ (L:Nat->Bool) (vals:Nat->Value) (J:PH) (ns:List PH) (w':World),I.le J->Below_ (fun j=>Kx Ds j vals (vals j) J) ops.length->Sat E J ns w'->(∀ j,j<ops.length->L j=true)->MS L vals J ns->Veil0 (Q .normal (Qb ops vals a ops.length) w')) :
  (Code.region id ops.toArray true).wp P Q a w:=by
 have hl:=fun k=>by have:=VLasting.get lasting k;rw [jR] at this;exact this
 refine region_og A E I [] ms (fun _ _ _=>True) (fun L vals J ns=>(∀ k,k<ops.length->L k=true->Kx Ds k vals (vals k) J)/\MS L vals J ns) hm chk (by simpa using hS) ⟨fun k _ h=>(by cases h),hMS⟩ (fun _ _ _ _ _ _=>trivial) ?_ ?_
 . intro i hi L vals J ns w' hLi hdown hanc hJ hs ⟨hF,hN⟩
   refine Xk ((step.get i hi) L vals J ns w' hLi hdown (fun j hj=>(hanc j hj).1) (Given.of fun j hj=>hF j (by have:=og_lt chk i hi j hj;omega) (hanc j hj).1) hJ (by simpa using hs) hN).out fun a' w'' hpost=>?_
   obtain ⟨p1,J',ns',p2,p3,p4,p5⟩:=hpost;refine ⟨p1,J',ns',p2,by simpa using p3,trivial,fun k hk hLk=>?_,p5⟩;by_cases e:k=i
   . subst e
     rw [Qr];refine (hl k).2 _ _ _ _ (fun j hj=>?_) p4;rw [Kb];rintro rfl
     have:=(hanc j hj).1;rw [hLi] at this;cases this
   . rw [Kb _ _ e] at hLk ⊢
     refine (hl k).1 _ _ _ _ p2 ?_;refine (hl k).2 _ _ _ _ (fun j hj=>?_) (hF k hk hLk);rw [Kb];rintro rfl
     have:=hdown k hk hLk j hj;rw [hLi] at this;cases this
 . intro vals J ns w' hJ hD hs ⟨L,hL,hF,hN⟩
   have hB2:Below_ (fun j=>Kx Ds j vals (vals j) J) ops.length:=by
    have:∀ n,n<=ops.length->Below_ (fun j=>Kx Ds j vals (vals j) J) n:=fun n=>by
     induction n with
     | zero=>exact fun _=>trivial
     | succ n ih=>exact fun hn=>⟨ih (by omega),hF n (by omega) (hL n (by omega))⟩
    exact this _ (jBb _)
   exact (fin L vals J ns w' hJ hB2 (by simpa using hs) hL hN).out
structure Mkr where
 i:Nat
 val:Nat->Value
 obj:(Nat->Value)->Obj
def Zq (mks:List Mkr) (L:Nat->Bool) (vals:Nat->Value):List PH:=mks.filterMap fun m=>if L m.i=true then some (PH.one (baseOf (vals m.i)) (m.obj vals)) else none
theorem piecesL_plain {L:Nat->Bool} {vals:Nat->Value} {k:Nat} {v:Value}:∀ {mks:List Mkr},(∀ m ∈ mks,m.i≠k/\(L m.i=true->m.obj (upd vals k v)=m.obj vals))->Zq mks (upd L k true) (upd vals k v)=Zq mks L vals
 | [],_=>rfl
 | m::mks,h=>by
   have ih:=piecesL_plain (mks:=mks) (k:=k) (v:=v) fun q hq=>h q (.tail _ hq)
   obtain ⟨h1,h2⟩:=h m (.head _);unfold Zq at ih ⊢;rw [List.filterMap_cons,List.filterMap_cons,Kb _ _ h1,Kb _ _ h1,ih];cases hL:L m.i with
   | true=>rw [h2 hL]
   | false=>simp
theorem piecesL_make:∀ {mks:List Mkr} {L:Nat->Bool} {vals:Nat->Value} {m:Mkr} {X:Nat},mks.Pairwise (fun a b=>a.i≠b.i)->m ∈ mks->L m.i=false->baseOf (m.val X)=X->m.obj (upd vals m.i (m.val X))=m.obj vals ->
  (∀ q ∈ mks,L q.i=true->q.obj (upd vals m.i (m.val X))=q.obj vals)->(Zq mks (upd L m.i true) (upd vals m.i (m.val X))).Perm (PH.one X (m.obj vals)::Zq mks L vals)
 | n::mks,L,vals,m,X,hp,hm,hL,hb,ho,hq=>by
   obtain ⟨h1,h2⟩:=jNa.1 hp;rcases jBa.1 hm with rfl|hm
   . have:=piecesL_plain (mks:=mks) (L:=L) (vals:=vals) (k:=m.i) (v:=m.val X) (fun q hq'=>⟨(h1 q hq').symm,hq q (.tail _ hq')⟩)
     unfold Zq at this ⊢;rw [List.filterMap_cons,List.filterMap_cons,this,Qr,jAa rfl,Qr,hb,jAb (by rw [hL];simp),ho]
   . have ih:=piecesL_make (vals:=vals) h2 hm hL hb ho fun q hq'=>hq q (.tail _ hq')
     unfold Zq at ih ⊢;rw [List.filterMap_cons,List.filterMap_cons,Kb _ _ (h1 m hm),Kb _ _ (h1 m hm)];cases hLn:L n.i with
     | true=>rw [jAa rfl,hq n (.head _) hLn];exact (ih.cons _).trans (List.Perm.swap _ _ _)
     | false=>rw [jAb (by simp)];exact ih
theorem piecesL_all {mks:List Mkr} {L:Nat->Bool} {vals:Nat->Value} (h:∀ m ∈ mks,L m.i=true):Zq mks L vals=mks.map fun m=>PH.one (baseOf (vals m.i)) (m.obj vals):=by
 unfold Zq
 induction mks with
 | nil=>rfl
 | cons m mks ih =>
   rw [List.filterMap_cons,h m (.head _),jAa rfl,jD,ih fun q hq=>h q (.tail _ hq)]
def mkrOk (A:List (List Nat)) (n:Nat) (mks:List Mkr):Prop:=mks.Pairwise (fun a b=>a.i≠b.i)/\∀ m ∈ mks,m.i<n/\(∀ X,baseOf (m.val X)=X)/\∀ vals vals',(∀ j ∈ A.getD m.i [],vals j=vals' j)->m.obj vals=m.obj vals'
theorem region_mk {P:Program} {id:Nat} {ops:List Oper} {Q:Exit->Act->World->Prop} {a:Act} {w:World} (A:List (List Nat)) (E:World) (I:PH) (ms:List PH) (Ds:List VF) (mks:List Mkr)
  (hm:P.follows .mixedOrders=true) (chk:ogOk ops A a.tmps.size=true) (hS:Sat E I ms w) (lasting:VLasting A Ds 0) (hb:mkrOk A ops.length mks) (hd:∀ m ∈ mks,∀ vals X J,Kx Ds m.i vals (m.val X) J)
  (plain:Below_ (fun k=>(mks.any fun m=>m.i == k)=true\/∀ (vals:Nat->Value) (J:PH) (bs:List PH) (w':World),(∀ p ∈ ms,p ∈ bs)->Given (fun j=>Kx Ds j vals (vals j) J) (A.getD k [])->I.le J->Sat E J bs w' ->
    Veil0 (Zi P ops (Qf ops k) (fun a' w''=>a'.defers=a.defers/\∃ J':PH,J.le J'/\Sat E J' bs w''/\Kx Ds k vals (Qh (Qf ops k) a') J') (Qb ops vals a k) w')) ops.length)
  (make:∀ m ∈ mks,∀ (vals:Nat->Value) (J:PH) (bs:List PH) (w':World),(∀ p ∈ ms,p ∈ bs)->Given (fun j=>Kx Ds j vals (vals j) J) (A.getD m.i [])->I.le J->Sat E J bs w' ->
    Veil0 (Zi P ops (Qf ops m.i) (fun a' w''=>a'.defers=a.defers/\∃ (J':PH) (X:Nat),J.le J'/\Qh (Qf ops m.i) a'=m.val X/\Sat E J' (PH.one X (m.obj vals)::bs) w'') (Qb ops vals a m.i) w'))
  (fin:∀ (vals:Nat->Value) (J:PH) (w':World),I.le J->Below_ (fun j=>Kx Ds j vals (vals j) J) ops.length->Sat E J ((mks.map fun m=>PH.one (baseOf (vals m.i)) (m.obj vals)) ++ ms) w'->Veil0 (Q .normal (Qb ops vals a ops.length) w')) :
  (Code.region id ops.toArray true).wp P Q a w:=by
 refine region_v A E I ms Ds (fun L vals _ ns=>ns=ms ++ Zq mks L vals) hm chk hS ?_ lasting ?_ ?_
 . have:Zq mks (fun _=>false) (fun _=>undef)=[]:=by
     unfold Zq;rw [List.filterMap_eq_nil_iff];intro m _;simp
   rw [this,jYa]
 . have key:∀ k,k<ops.length->∀ (L:Nat->Bool) (vals:Nat->Value) (J:PH) (ns:List PH) (w':World),L k=false->(∀ j,j<ops.length->L j=true->∀ k ∈ A.getD j [],L k=true)->(∀ j ∈ A.getD k [],L j=true)->Given (fun j=>Kx Ds j vals (vals j) J) (A.getD k [])->I.le J->Sat E J ns w'->ns=ms ++ Zq mks L vals ->
      Veil0 (Zi P ops (Qf ops k) (fun a' w''=>a'.defers=a.defers/\∃ (J':PH) (ns':List PH),J.le J'/\Sat E J' ns' w''/\Kx Ds k vals (Qh (Qf ops k) a') J'/\ns'=ms ++ Zq mks (upd L k true) (upd vals k (Qh (Qf ops k) a'))) (Qb ops vals a k) w'):=by
     intro k hk L vals J ns w' hLk hdown hanc hg hJ hs hns;subst hns;have stay:∀ v,∀ q ∈ mks,L q.i=true->q.obj (upd vals k v)=q.obj vals:=fun v q hq hL=>(hb.2 q hq).2.2 (upd vals k v) vals fun j hj=>by
      rw [Kb];rintro rfl
      have:=hdown q.i (hb.2 q hq).1 hL j hj;rw [hLk] at this;cases this
     by_cases hk2:∃ m ∈ mks,m.i=k
     . obtain ⟨m,hmm,rfl⟩:=hk2
       refine ⟨Xk (make m hmm vals J _ w' (fun p hp=>jSb _ hp) hg hJ hs).out fun a' w'' hpost=>?_⟩;obtain ⟨p1,J',X,p2,p3,p4⟩:=hpost;refine ⟨p1,J',_,p2,?_,?_,rfl⟩
       . rw [p3]
         refine p4.perm ?_;refine (jTa.symm).trans ?_;refine List.Perm.append_left ms (piecesL_make hb.1 hmm hLk ((hb.2 m hmm).2.1 X) ?_ (stay _)).symm;exact (hb.2 m hmm).2.2 (upd vals m.i (m.val X)) vals fun j hj=>by
          rw [Kb];intro e
          have:=hanc j hj;rw [e,hLk] at this;cases this
       . rw [p3];exact hd m hmm _ X J'
     . rcases plain.get k hk with h|h
       . rw [kW] at h
         obtain ⟨m,hmm,e⟩:=h;exact absurd ⟨m,hmm,by simpa using e⟩ hk2
       . refine ⟨Xk (h vals J _ w' (fun p hp=>jSb _ hp) hg hJ hs).out fun a' w'' hpost=>?_⟩
         obtain ⟨p1,J',p2,p3,p4⟩:=hpost;refine ⟨p1,J',_,p2,p3,p4,?_⟩;rw [piecesL_plain fun m hmm=>⟨fun e=>hk2 ⟨m,hmm,e⟩,stay _ m hmm⟩]
   have:∀ n,n<=ops.length->Below_ (fun i=>∀ (L:Nat->Bool) (vals:Nat->Value) (J:PH) (ns:List PH) (w':World),L i=false->(∀ j,j<ops.length->L j=true->∀ k ∈ A.getD j [],L k=true)->(∀ j ∈ A.getD i [],L j=true)->Given (fun j=>Kx Ds j vals (vals j) J) (A.getD i [])->I.le J->Sat E J ns w'->ns=ms ++ Zq mks L vals ->
     Veil0 (Zi P ops (Qf ops i) (fun a' w''=>a'.defers=a.defers/\∃ (J':PH) (ns':List PH),J.le J'/\Sat E J' ns' w''/\Kx Ds i vals (Qh (Qf ops i) a') J'/\ns'=ms ++ Zq mks (upd L i true) (upd vals i (Qh (Qf ops i) a'))) (Qb ops vals a i) w')) n:=fun n=>by
    induction n with
    | zero=>exact fun _=>trivial
    | succ n ih=>exact fun hn=>⟨ih (by omega),key n (by omega)⟩
   exact this _ (jBb _)
 . intro L vals J ns w' hJ hD hs hL hns
   subst hns;rw [piecesL_all fun m hmm=>hL _ (hb.2 m hmm).1] at hs;exact fin vals J w' hJ hD (hs.perm jIb)
end
end Go.Proofs.YtidamcdklgfogaaGreatDoor
