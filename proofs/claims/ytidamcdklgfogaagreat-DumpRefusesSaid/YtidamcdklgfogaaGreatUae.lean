import Derived.Test.YtidamcdklgfogaaGreatUad
import Derived.Maps.RangeRun
import Derived.ChangeKeysEq
import Derived.Laws.CopyRow
set_option linter.unusedSectionVars false
set_option linter.unusedVariables false
set_option linter.unusedSimpArgs false
set_option maxRecDepth 100000
set_option maxHeartbeats 1000000
namespace Go.Proofs.YtidamcdklgfogaaGreat
section
open Go.RowKit
structure Rw (α:Type) where
 k:α
 v:Value
 b:Nat
def Rw.ent{α:Type}(key:α->Value)(r:Rw α):MapEntry:=⟨key r.k,r.v,r.b⟩
def Qj{α:Type}(key:α->Value)(l:List (Rw α))(clock:Nat):Obj:=.map (l.map (Rw.ent key)).toArray clock
section
variable{α:Type} [DecidableEq α]
def look(x:α):List (Rw α)->Nat->Option (Nat×Value)
 | [],_=>none
 | r::l,i=>if r.k=x then some (i,r.v) else look x l (i+1)
structure Key (P:Program) (kt:TypeId) (key:α->Value):Prop where
 check:∀(w:World) (em:Bool) (x:α),(Instr.checkKey em 10000 kt (key x)).run P w=.ok () w
 find:∀(w:World) (x:α) (l:List (Rw α)),(Instr.findKey kt (key x) (l.map (Rw.ent key))).run P w=.ok (look x l 0) w
 same:∀x,Instr.sameBits 10000 (key x) (key x)=true
structure MapOk (l:List (Rw α)) (clock:Nat):Prop where
 keys:(l.map (·.k)).Nodup
 born:(l.map (·.b)).Nodup
 old:∀r∈l,r.b<clock
def getR(l:List (Rw α))(x:α):Option Value:=(l.find? (λr=>decide (r.k=x))).map (·.v)
theorem look_get(x:α):∀(l:List (Rw α)) (i:Nat),(look x l i).map (·.2)=getR l x
 | [],_=>rfl
 | r::l,i=>by
   unfold look getR;rw[List.find?_cons];by_cases h:r.k=x
   . simp[h]
   . have:=look_get x l (i+1)
     unfold getR at this;simp[h,this]
theorem look_none{x:α}:∀{l:List (Rw α)} {i:Nat},look x l i=none↔∀r∈l,r.k≠x
 | [],_=>by simp[look]
 | r::l,i=>by
   unfold look;by_cases h:r.k=x
   . simp[h]
   . simp[h,look_none (l:=l) (i:=i+1)]
theorem look_some{x:α}{j:Nat}{v:Value}:∀{l:List (Rw α)} {i:Nat},look x l i=some (j,v)->i<=j/\∃r,l[j-i]?=some r/\r.k=x/\r.v=v
 | [],_,h=>by simp[look] at h
 | r::l,i,h=>by
   unfold look at h;by_cases hk:r.k=x
   . rw[jAb hk] at h
     simp only[jEa,jIa] at h;obtain⟨rfl,rfl⟩:=h;exact⟨jBb _,r,by simp,hk,rfl⟩
   . rw[jAa hk] at h
     obtain⟨h1,r',h2,h3,h4⟩:=look_some h;refine⟨by omega,r',?_,h3,h4⟩;rw[show j-i=(j-(i+1))+1 by omega]
     simpa using h2
theorem getR_none{l:List (Rw α)}{x:α}:getR l x=none↔∀r∈l,r.k≠x:=by
 rw[<- look_get x l 0];simp[look_none]
def putR(l:List (Rw α))(x:α)(v:Value):List (Rw α):=l.map λr=>if r.k=x then { r with v:=v } else r
def delR(l:List (Rw α))(x:α):List (Rw α):=l.filter λr=>decide (r.k≠x)
end
section
variable{P:Program} {w E:World} {I:PH} {ms:List PH}
theorem run_getObj{r:Nat}{o:Obj}(h:w.heap[r]?=some o)(hc:o.isCells=false):(getObj r).run P w=.ok o w:=by
 simp only[getObj,Sem.run,h];cases o <;> first|rfl|(cases hc)
theorem run_setObj_S{X:Nat}{o o':Obj}(h:w.heap[X]?=some o)(hc:o.isCells=false):(setObj X o').run P w=.ok () (ChangeMaps.setBlock w X o'):=by
 simp only[setObj,Sem.run,h,ChangeMaps.setBlock];cases o <;> first|rfl|(cases hc)
theorem setBlock_step{X:Nat}{o o':Obj}(h:Sat E I (PH.one X o::ms) w):Sat E I (PH.one X o'::ms) (ChangeMaps.setBlock w X o'):=by
 have hX:=h.own _ (.head _) X _ (PH.one_self _ _);have hlt:X<w.heap.size:=(jDa.1 hX).1;refine h.change (by simp[ChangeMaps.setBlock]) rfl rfl rfl (λb _ hb=>?_) (λb u hb=>?_) (λb hb _=>?_)
 . have hne:b≠X:=by
     rintro rfl;rw[PH.one_self] at hb;cases hb
   simp[ChangeMaps.setBlock,Ne.symm hne]
 . obtain⟨rfl,rfl⟩:=PH.one_some hb
   simp[ChangeMaps.setBlock,hlt]
 . unfold PH.one at hb ⊢
   split at hb
   . cases hb
   . rename_i hne;rw[jAa hne]
theorem MapOk.nil{α:Type}{clock:Nat}:MapOk ([]:List (Rw α)) clock:=⟨by simp,by simp,by simp⟩
theorem wp_mk{α:Type}{key:α->Value}{T:TypeId}{o:Oper}{a:Act}{K:Act->World->Prop}{Q:Exit->Act->World->Prop}(hS:Sat E I ms w)(ho:o.op=.makeMap T none)
  (h:∀M w',Sat E I (PH.one M (Qj key ([]:List (Rw α)) 0)::ms) w'->K (a.put o.dst (.map (some M))) w'):o.wp P a w K Q:=by
 unfold Oper.wp execOp;simp only[ho,Instr.makeMap,newObj,Sem.run_bind,Sem.run_pure,Option.map_none];exact h _ _ (hS.alloc _)
end
section
variable{α:Type} [DecidableEq α] {P:Program} {w E:World} {I:PH} {ms:List PH} {key:α->Value} {kt et T:TypeId} {l:List (Rw α)} {clock M:Nat} {x:α}
theorem run_lookup_S(hk:Key P kt key)(ht:P.underlying T=some (.map kt et)){z:Value}(hz:Xh P et=some z)(hM:w.heap[M]?=some (Qj key l clock))(c:Bool) :
  (Instr.lookup T (.map (some M)) (key x) c).run P w=.ok (if c=true then .tuple #[(getR l x).getD z,.bool (getR l x).isSome] else (getR l x).getD z) w:=by
 have h1:=hk.check w (l.map (Rw.ent key)).toArray.isEmpty x;have h2:=hk.find w x l;have h3:=look_get x l 0;have hz':(zeroValue et).run P w=.ok z w:=by
  have:=Zw hz;cases hq:P.info? et with
  | none=>rw[hq] at this;cases this
  | some i =>
    rw[hq] at this;have hi:i.zero=some z:=this;simp[zeroValue,typeInfo,hq,hi]
 unfold Instr.lookup;simp only[Sem.run_bind,run_underlying ht,Result.andThen_ok,run_getObj hM rfl,Qj,Sem.run_pure,h1,h2];rw[<- h3];cases hl:look x l 0 with
 | none=>simp[hz']
 | some jv=>obtain⟨j,v⟩:=jv;simp
theorem putR_modify{v:Value}(hn:(l.map (·.k)).Nodup):∀{i j:Nat} {u:Value},look x l i=some (j,u) ->
  (l.map (Rw.ent key)).modify (j-i) (λe=>{ e with key:=key x,val:=v })=(putR l x v).map (Rw.ent key):=by
 induction l with
 | nil=>intro i j u h;simp[look] at h
 | cons r l ih =>
   intro i j u h;unfold look at h;have hn':=jMa.1 (by simpa using hn:(r.k::l.map (·.k)).Nodup);by_cases hk:r.k=x
   . rw[jAb hk] at h
     simp only[jEa,jIa] at h;obtain⟨rfl,rfl⟩:=h;have hrest:putR l x v=l:=by
      unfold putR;refine (jXb (g:=id) λr' hr'=>?_).trans (List.map_id _);rw[jAa]
      . rfl
      . intro e
        exact hn'.1 (hk.trans e.symm ▸ jWa hr')
     show _=(putR (r::l) x v).map _
     have e:putR (r::l) x v={ r with v:=v }::putR l x v:=by simp[putR,hk]
     rw[e,hrest];simp[Rw.ent,hk]
   . rw[jAa hk] at h
     have hij:=(look_some h).1;have e:putR (r::l) x v=r::putR l x v:=by simp[putR,hk]
     rw[e,show j-i=(j-(i+1))+1 by omega];simp only[jDb,List.modify_succ_cons];rw[ih hn'.2 h]
theorem delR_erase(hn:(l.map (·.k)).Nodup):∀{i j:Nat} {u:Value},look x l i=some (j,u)->(l.map (Rw.ent key)).eraseIdx (j-i)=(delR l x).map (Rw.ent key):=by
 induction l with
 | nil=>intro i j u h;simp[look] at h
 | cons r l ih =>
   intro i j u h;unfold look at h;have hn':=jMa.1 (by simpa using hn:(r.k::l.map (·.k)).Nodup);by_cases hk:r.k=x
   . rw[jAb hk] at h
     simp only[jEa,jIa] at h;obtain⟨rfl,rfl⟩:=h;have hrest:delR l x=l:=by
      unfold delR;rw[kZb];intro r' hr'
      have:r'.k≠x:=by
       rintro rfl;exact hn'.1 (hk ▸ jWa hr')
      simpa using this
     have e:delR (r::l) x=delR l x:=by simp[delR,hk]
     rw[e,hrest];simp
   . rw[jAa hk] at h
     have hij:=(look_some h).1;have e:delR (r::l) x=r::delR l x:=by simp[delR,hk]
     rw[e,show j-i=(j-(i+1))+1 by omega];simp only[jDb,List.eraseIdx_cons_succ];rw[ih hn'.2 h]
theorem delR_none(h:∀r∈l,r.k≠x):delR l x=l:=by
 unfold delR;rw[kZb];intro r hr
 simpa using h r hr
theorem MapOk.push(h:MapOk l clock)(hx:getR l x=none)(v:Value):MapOk (l++[⟨x,v,clock⟩]) (clock+1):=by
 have hx':=getR_none.1 hx;refine⟨?_,?_,λr hr=>?_⟩
 . simp only[jGa,jDb,jZ]
   refine jY.2 ⟨h.keys,by simp,λa ha b hb=>?_⟩;obtain⟨r,hr,rfl⟩:=jF.1 ha;simp at hb;subst hb
   exact hx' r hr
 . simp only[jGa,jDb,jZ]
   refine jY.2 ⟨h.born,by simp,λa ha b hb=>?_⟩;obtain⟨r,hr,rfl⟩:=jF.1 ha;simp at hb;subst hb
   have:=h.old r hr;omega
 . rcases jH.1 hr with hr|hr
   . have:=h.old r hr;omega
   . simp at hr;subst hr;simp
theorem MapOk.put(h:MapOk l clock)(v:Value):MapOk (putR l x v) clock:=by
 have e1:(putR l x v).map (·.k)=l.map (·.k):=by
  unfold putR;rw[jXa];refine jXb λr _=>?_
  by_cases hk:r.k=x <;> simp[hk]
 have e2:(putR l x v).map (·.b)=l.map (·.b):=by
  unfold putR;rw[jXa];refine jXb λr _=>?_
  by_cases hk:r.k=x <;> simp[hk]
 refine⟨e1 ▸ h.keys,e2 ▸ h.born,λr hr=>?_⟩;obtain⟨r',hr',rfl⟩:=jF.1 hr
 have:=h.old r' hr';by_cases hk:r'.k=x <;> simp[hk,this]
theorem MapOk.del(h:MapOk l clock):MapOk (delR l x) clock :=
 ⟨h.keys.sublist ((kO).map _),h.born.sublist ((kO).map _),λr hr=>h.old r (jQ.1 hr).1⟩
end
section
variable{α:Type} [DecidableEq α] {P:Program} {o:Oper} {a:Act} {w E:World} {K:Act->World->Prop} {Q:Exit->Act->World->Prop} {I:PH} {ms:List PH} {ops:Array Oper} {rest:List Oper}
 {key:α->Value} {kt et T:TypeId} {l:List (Rw α)} {clock M:Nat} {x:α}
theorem wp_lk{p:PH}(hp:p.le (Qa w))(hpM:p M=some (Qj key l clock))(hk:Key P kt key)(ht:P.underlying T=some (.map kt et)){z:Value}(hz:Xh P et=some z){m y:Operand}{c:Bool}(ho:o.op=.lookup T m y c)
  (hm:a.eval m=.map (some M))(hy:a.eval y=key x)(h:K (a.put o.dst (if c=true then .tuple #[(getR l x).getD z,.bool (getR l x).isSome] else (getR l x).getD z)) w):o.wp P a w K Q:=by
 have hM:w.heap[M]?=some (Qj key l clock):=hp M _ hpM;unfold Oper.wp execOp;simp only[ho,hm,hy,Sem.run_bind,run_lookup_S hk ht hz hM c,Result.andThen_ok,Sem.run_pure];exact h
end
end
section
open Go.RowKit
section
variable{α:Type} [DecidableEq α] {P:Program} {w:World} {key:α->Value} {kt et T:TypeId} {l:List (Rw α)} {clock M:Nat} {x:α} {v:Value}
theorem look_at{j:Nat}{u:Value}(h:look x l 0=some (j,u)):∃r,l[j]?=some r/\r.k=x/\r.v=u:=(look_some h).2
theorem run_update_S(hk:Key P kt key)(ht:P.underlying T=some (.map kt et))(hM:w.heap[M]?=some (Qj key l clock))(hn:(l.map (·.k)).Nodup) :
  (Instr.mapUpdate T (.map (some M)) (key x) v).run P w=.ok () (ChangeMaps.setBlock w M (if (getR l x).isSome=true then Qj key (putR l x v) clock else Qj key (l++[⟨x,v,clock⟩]) (clock+1))):=by
 have h1:=hk.check w false x;have h2:=hk.find w x l;have h3:=look_get x l 0;unfold Instr.mapUpdate;simp only[Sem.run_bind,run_underlying ht,Result.andThen_ok,run_getObj hM rfl,Qj,h1,h2];rw[<- h3];cases hl:look x l 0 with
 | none =>
   simp only[Option.map_none,Option.isSome_none];rw[run_setObj_S hM rfl];simp[Rw.ent]
 | some jv =>
   obtain⟨j,u⟩:=jv;obtain⟨r,hr,hrk,hrv⟩:=look_at hl;have hm:=putR_modify (key:=key) (v:=v) hn hl;have hke:((((l.map (Rw.ent key)).toArray[j]?).map (·.key)).getD (key x))=key x:=by
    simp[hr,Rw.ent,hrk]
   have hst:∀u:Value,Instr.keyThatStays (key x) (key x)=pure (key x):=λ_=>by
    unfold Instr.keyThatStays;rw[jAb (hk.same x)]
   simp only[Sem.run_bind,hke,hst v,Sem.run_pure,Result.andThen_ok,Option.map_some,Option.isSome_some,jEb];rw[run_setObj_S hM rfl]
   have:((l.map (Rw.ent key)).toArray.modify j λe=>{ e with key:=key x,val:=v })=((putR l x v).map (Rw.ent key)).toArray:=by
    rw[<- hm];simp
   rw[this]
theorem run_delete_S(hk:Key P kt key)(ht:P.underlying T=some (.map kt et)){K2 ty:TypeId}(hM:w.heap[M]?=some (Qj key l clock))(hn:(l.map (·.k)).Nodup) :
  (Builtin.delete_ #[T,K2] ty #[.map (some M),key x]).run P w=.ok (.tuple #[]) (ChangeMaps.setBlock w M (Qj key (delR l x) clock)):=by
 have h1:=hk.check w (l.map (Rw.ent key)).toArray.isEmpty x;have h2:=hk.find w x l;simp only[Builtin.delete_,zC,zB,zA,Sem.run_bind,run_underlying ht,Result.andThen_ok,run_getObj hM rfl,Qj,h1,h2];cases hl:look x l 0 with
 | none =>
   rw[delR_none (look_none.1 hl)];simp only[Sem.run_bind];rw[run_setObj_S hM rfl];simp
 | some jv =>
   obtain⟨j,u⟩:=jv;have hm:=delR_erase (key:=key) hn hl;simp only[Sem.run_bind];rw[run_setObj_S hM rfl]
   have:(l.map (Rw.ent key)).toArray.eraseIdxIfInBounds j=((delR l x).map (Rw.ent key)).toArray:=by
    rw[<- hm];simp
   rw[this];simp
end
section
variable{α:Type} {P:Program} {w:World} {key:α->Value} {kt et T ty:TypeId} {l:List (Rw α)} {clock M:Nat}
end
section
variable{α:Type} [DecidableEq α] {P:Program} {o:Oper} {a:Act} {w E:World} {K:Act->World->Prop} {Q:Exit->Act->World->Prop} {I:PH} {ms:List PH} {ops:Array Oper} {rest:List Oper}
 {key:α->Value} {kt et T:TypeId} {l:List (Rw α)} {clock M:Nat} {x:α} {v:Value}
theorem wp_mu(hS:Sat E I ms w)(k:Nat)(hm:ms[k]?=some (PH.one M (Qj key l clock)))(hk:Key P kt key)(ht:P.underlying T=some (.map kt et)){m y z:Operand}(ho:o.op=.mapUpdate T m y z)
  (hem:a.eval m=.map (some M))(hy:a.eval y=key x)(hz:a.eval z=v)(hn:MapOk l clock)
  (h:∀w',Sat E I (ms.set k (PH.one M (if (getR l x).isSome=true then Qj key (putR l x v) clock else Qj key (l++[⟨x,v,clock⟩]) (clock+1)))) w'->K (a.put o.dst undef) w'):o.wp P a w K Q:=by
 have h0:=hS.perm (Kd k hm);unfold Oper.wp execOp;simp only[ho,hem,hy,hz,Sem.run_bind,run_update_S hk ht (h0.own _ (.head _) M _ (PH.one_self _ _)) hn.keys,Result.andThen_ok,Sem.run_pure];exact h _ ((setBlock_step h0).perm (Kl k hm))
theorem wp_dl(hS:Sat E I ms w)(k:Nat)(hm:ms[k]?=some (PH.one M (Qj key l clock)))(hk:Key P kt key)(ht:P.underlying T=some (.map kt et)){m y:Operand}{K2:TypeId}(ho:o.op=.call { callee:=.builtin .delete,args := #[m,y],argTypes := #[T,K2] })
  (hem:a.eval m=.map (some M))(hy:a.eval y=key x)(hn:MapOk l clock)
  (h:∀w',Sat E I (ms.set k (PH.one M (Qj key (delR l x) clock))) w'->K (a.put o.dst (.tuple #[])) w'):o.wp P a w K Q:=by
 have h0:=hS.perm (Kd k hm);unfold Oper.wp execOp;simp only[ho,resolve,invoke,builtin,Sem.run_bind,Sem.run_pure,Result.andThen_ok,kTb,jDb,jZ,hem,hy,run_delete_S hk ht (h0.own _ (.head _) M _ (PH.one_self _ _)) hn.keys];exact h _ ((setBlock_step h0).perm (Kl k hm))
def Xp(M since:Nat)(done:List (Rw α))(last:Nat):Obj:=.mapIter (some M) since (done.map (·.b)).toArray last
theorem wp_rg(hS:Sat E I ms w){p:PH}(hp:p.le (Qa w))(hpM:p M=some (Qj key l clock))(ht:P.underlying T=some (.map kt et)){m:Operand}(ho:o.op=.range T m)(hem:a.eval m=.map (some M))
  (h:∀X w',Sat E I (PH.one X (Xp M clock ([]:List (Rw α)) clock)::ms) w'->K (a.put o.dst (.pointer (some ⟨X,0,none⟩))) w'):o.wp P a w K Q:=by
 unfold Oper.wp execOp;simp only[ho,hem,Instr.range,Sem.run_bind,run_underlying ht,Result.andThen_ok,run_getObj (hp M _ hpM) rfl,Qj,Sem.run_pure,newObj];exact h _ _ (hS.alloc _)
theorem wp_nx(hS:Sat E I ms w)(k:Nat){R:Nat}{done left:List (Rw α)}(hm:ms[k]?=some (PH.one R (Xp M clock done clock))){p:PH}(hp:Src I ms p)(hpM:p M=some (Qj key l clock))
  (hok:MapOk l clock)(hperm:(done++left).Perm l){it:Operand}(ho:o.op=.next it false)(hit:a.eval it=.pointer (some ⟨R,0,none⟩))
  (hdone:left=[]->K (a.put o.dst (.tuple #[.bool false])) w)
  (hmore:∀r left' w',left.Perm (r::left')->r∈l->Sat E I (ms.set k (PH.one R (Xp M clock (done++[r]) clock))) w'->K (a.put o.dst (.tuple #[.bool true,key r.k,r.v])) w'):o.wp P a w K Q:=by
 have h0:=hS.perm (Kd k hm);have hR:=h0.own _ (.head _) R _ (PH.one_self _ _);have hM:=hS.src hp M _ hpM;have hn:=hok.born;have hleft:∀r∈l,((done.map (·.b)).toArray.contains r.b=false↔r∈left):=λr hr=>by
  have hnd:((done++left).map (·.b)).Nodup:=(hperm.map (·.b)).nodup_iff.2 hn;rw[jGa] at hnd;have hmem:=hperm.mem_iff.2 hr;have hc:(done.map (·.b)).toArray.contains r.b=true↔r.b∈done.map (·.b):=by simp
  constructor
  . intro h
    rcases jH.1 hmem with h1|h1
    . have:=hc.2 (jWa h1)
      rw[this] at h;cases h
    . exact h1
  . intro h
    cases hb:(done.map (·.b)).toArray.contains r.b with
    | false=>rfl
    | true =>
      have h1:=hc.1 hb;exact absurd rfl ((jY.1 hnd).2.2 r.b h1 r.b (jWa h))
 have hfl:(leftOf (l.map (Rw.ent key)).toArray (done.map (·.b)).toArray).toList=(l.filter λr=>!(done.map (·.b)).toArray.contains r.b).map (Rw.ent key):=by
  unfold leftOf;rw[Array.toList_filter,List.toList_toArray,List.filter_map];rfl
 unfold Oper.wp execOp;simp only[ho,hit,Sem.run_bind];rcases run_next_at (P:=P) w o.type R M clock clock (done.map Rw.b).toArray (l.map (Rw.ent key)).toArray clock hR hM (λe he=>by
  simp only[jF] at he;obtain⟨r,hr,rfl⟩:=he;exact hok.old r hr) (jBb _) with⟨h1,h2⟩|⟨e,he,w1,hw1,h2⟩
 . rw[h2]
   refine hdone ?_;have h3:(l.filter λr=>!(done.map (·.b)).toArray.contains r.b)=[]:=by
    have:((l.filter λr=>!(done.map (·.b)).toArray.contains r.b).map (Rw.ent key)).length=0:=by rw[<- hfl,Array.length_toList];exact h1
    exact jQb (by rw[jHb] at this;exact this)
   refine kMb.2 λr hr=>?_
   have hrl:=hperm.mem_iff.1 (kFb _ hr)
   have:=(hleft r hrl).2 hr;have h4:=kPa.1 h3 r hrl;rw[this] at h4;exact h4 rfl
 . rw[hfl] at he
   obtain⟨r,hr,rfl⟩:=jF.1 he;obtain⟨hrl,hrb⟩:=jQ.1 hr;have hrb':(done.map (·.b)).toArray.contains r.b=false:=by simpa using hrb
   have hrm:=(hleft r hrl).1 hrb';obtain⟨s,t,hst⟩:=List.append_of_mem hrm;rw[h2];refine hmore r (s++t) _ (hst ▸ jU) hrl ?_;have h1:Sat E I (PH.one R (Xp M clock done clock)::ms.eraseIdx k) w1:=by
    rcases hw1 with rfl|rfl
    . exact h0
    . exact h0.drew
   have h3:=(setBlock_step (o':=Xp M clock (done++[r]) clock) h1).perm (Kl k hm)
   simpa[Xp,Rw.ent] using h3
theorem wp_en{R:Nat}{done:List (Rw α)}{r:Rw α}{p q:PH}(hq:q.le (Qa w))(hqR:q R=some (Xp M clock (done++[r]) clock))(hp:p.le (Qa w))(hpM:p M=some (Qj key l clock))
  (hok:MapOk l clock)(hr:r∈l){it:Operand}(ho:o.op=.entry it)(hit:a.eval it=.pointer (some ⟨R,0,none⟩))
  (h:K (a.put o.dst (.tuple #[key r.k,r.v])) w):o.wp P a w K Q:=by
 have hR:w.heap[R]?=some (.mapIter (some M) clock ((done.map (·.b)).toArray.push (Rw.ent key r).born) clock):=by
  have:=hq R _ hqR;rw[show w.heap[R]?=_ from this];simp[Xp,Rw.ent]
 have hM:=hp M _ hpM
 have:=run_entry_at (P:=P) w R M clock (done.map (·.b)).toArray (l.map (Rw.ent key)).toArray clock (Rw.ent key r) hR hM (by simpa using ⟨r,hr,rfl⟩) (by
  have:=hok.born
  simpa[Rw.ent,Function.comp_def] using this)
 unfold Oper.wp execOp;simp only[ho,hit,Sem.run_bind,this,Result.andThen_ok,Sem.run_pure];exact h
end
end
section
open Go.RowKit
section
variable{α:Type} [DecidableEq α] {P:Program} {o:Oper} {a:Act} {w E:World} {Q:Exit->Act->World->Prop} {I:PH} {ms:List PH} {ops:Array Oper} {rest:List Oper}
 {key:α->Value} {kt et T:TypeId} {l:List (Rw α)} {clock M:Nat} {x:α} {v:Value}
theorem Kb{dst:Option Tmp}{type:TypeId}{pos:String}{after:Array Edge}{T:TypeId}{m y:Operand}{c:Bool}(h:wpList P ops Q (⟨dst,.lookup T m y c,type,pos,after,none⟩::rest) a w):wpList P ops Q (⟨dst,.lookup T m y c,type,pos,after,none⟩::rest) a w:=h
theorem isUpdate{dst:Option Tmp}{type:TypeId}{pos:String}{after:Array Edge}{T:TypeId}{m y z:Operand}(h:wpList P ops Q (⟨dst,.mapUpdate T m y z,type,pos,after,none⟩::rest) a w):wpList P ops Q (⟨dst,.mapUpdate T m y z,type,pos,after,none⟩::rest) a w:=h
theorem isRange{dst:Option Tmp}{type:TypeId}{pos:String}{after:Array Edge}{T:TypeId}{m:Operand}(h:wpList P ops Q (⟨dst,.range T m,type,pos,after,none⟩::rest) a w):wpList P ops Q (⟨dst,.range T m,type,pos,after,none⟩::rest) a w:=h
theorem isNext{dst:Option Tmp}{type:TypeId}{pos:String}{after:Array Edge}{m:Operand}(h:wpList P ops Q (⟨dst,.next m false,type,pos,after,none⟩::rest) a w):wpList P ops Q (⟨dst,.next m false,type,pos,after,none⟩::rest) a w:=h
theorem isEntry{dst:Option Tmp}{type:TypeId}{pos:String}{after:Array Edge}{m:Operand}(h:wpList P ops Q (⟨dst,.entry m,type,pos,after,none⟩::rest) a w):wpList P ops Q (⟨dst,.entry m,type,pos,after,none⟩::rest) a w:=h
theorem isMakeMap{dst:Option Tmp}{type:TypeId}{pos:String}{after:Array Edge}{T:TypeId}(h:wpList P ops Q (⟨dst,.makeMap T none,type,pos,after,none⟩::rest) a w):wpList P ops Q (⟨dst,.makeMap T none,type,pos,after,none⟩::rest) a w:=h
theorem isDelete{dst:Option Tmp}{type:TypeId}{pos:String}{after:Array Edge}{m y:Operand}{t t':TypeId}(h:wpList P ops Q (⟨dst,.call { callee:=.builtin .delete,args := #[m,y],argTypes := #[t,t'] },type,pos,after,none⟩::rest) a w) :
 wpList P ops Q (⟨dst,.call { callee:=.builtin .delete,args := #[m,y],argTypes := #[t,t'] },type,pos,after,none⟩::rest) a w:=h
theorem lk2{p:PH}(hS:Sat E I ms w)(hp:Src I ms p)(hpM:p M=some (Qj key l clock))(hk:Key P kt key)(ht:P.underlying T=some (.map kt et)){z:Value}(hz:Xh P et=some z)(hg:o.guard=none){m y:Operand}(ho:o.op=.lookup T m y true)
  (hm:a.eval m=.map (some M))(hy:a.eval y=key x){q:Option Value}(hq:getR l x=q)(h:wpList P ops Q rest (a.put o.dst (.tuple #[q.getD z,.bool q.isSome])) w):wpList P ops Q (o::rest) a w :=
 wpList_plain hg λ_ hK=>wp_lk (hS.src hp) hpM hk ht hz ho hm hy (hK _ _ (by rw[jAb rfl,hq];exact h))
theorem lk1{p:PH}(hS:Sat E I ms w)(hp:Src I ms p)(hpM:p M=some (Qj key l clock))(hk:Key P kt key)(ht:P.underlying T=some (.map kt et)){z:Value}(hz:Xh P et=some z)(hg:o.guard=none){m y:Operand}(ho:o.op=.lookup T m y false)
  (hm:a.eval m=.map (some M))(hy:a.eval y=key x){q:Option Value}(hq:getR l x=q)(h:wpList P ops Q rest (a.put o.dst (q.getD z)) w):wpList P ops Q (o::rest) a w :=
 wpList_plain hg λ_ hK=>wp_lk (hS.src hp) hpM hk ht hz ho hm hy (hK _ _ (by rw[jAa (by simp),hq];exact h))
theorem muNew(hS:Sat E I ms w)(k:Nat)(hm:ms[k]?=some (PH.one M (Qj key l clock)))(hk:Key P kt key)(ht:P.underlying T=some (.map kt et))(hg:o.guard=none){m y z:Operand}(ho:o.op=.mapUpdate T m y z)
  (hem:a.eval m=.map (some M))(hy:a.eval y=key x)(hz:a.eval z=v)(hn:MapOk l clock)(hx:getR l x=none)
  (h:∀w',Sat E I (ms.set k (PH.one M (Qj key (l++[⟨x,v,clock⟩]) (clock+1)))) w'->wpList P ops Q rest (a.put o.dst undef) w'):wpList P ops Q (o::rest) a w :=
 wpList_plain hg λ_ hK=>wp_mu hS k hm hk ht ho hem hy hz hn λw' hS'=>hK _ _ (h w' (by rw[hx] at hS';exact hS'))
theorem dl(hS:Sat E I ms w)(k:Nat)(hm:ms[k]?=some (PH.one M (Qj key l clock)))(hk:Key P kt key)(ht:P.underlying T=some (.map kt et))(hg:o.guard=none){m y:Operand}{K2:TypeId}(ho:o.op=.call { callee:=.builtin .delete,args := #[m,y],argTypes := #[T,K2] })
  (hem:a.eval m=.map (some M))(hy:a.eval y=key x)(hn:MapOk l clock)
  (h:∀w',Sat E I (ms.set k (PH.one M (Qj key (delR l x) clock))) w'->wpList P ops Q rest (a.put o.dst (.tuple #[])) w'):wpList P ops Q (o::rest) a w :=
 wpList_plain hg λ_ hK=>wp_dl hS k hm hk ht ho hem hy hn λw' hS'=>hK _ _ (h w' hS')
theorem mkM(key:α->Value)(hS:Sat E I ms w)(hg:o.guard=none)(ho:o.op=.makeMap T none)
  (h:∀M w',Sat E I (PH.one M (Qj key ([]:List (Rw α)) 0)::ms) w'->wpList P ops Q rest (a.put o.dst (.map (some M))) w'):wpList P ops Q (o::rest) a w :=
 wpList_plain hg λ_ hK=>wp_mk hS ho λM w' hS'=>hK _ _ (h M w' hS')
theorem rgM{p:PH}(hS:Sat E I ms w)(hp:Src I ms p)(hpM:p M=some (Qj key l clock))(ht:P.underlying T=some (.map kt et))(hg:o.guard=none){m:Operand}(ho:o.op=.range T m)(hem:a.eval m=.map (some M))
  (h:∀X w',Sat E I (PH.one X (Xp M clock ([]:List (Rw α)) clock)::ms) w'->wpList P ops Q rest (a.put o.dst (.pointer (some ⟨X,0,none⟩))) w'):wpList P ops Q (o::rest) a w :=
 wpList_plain hg λ_ hK=>wp_rg hS (hS.src hp) hpM ht ho hem λX w' hS'=>hK _ _ (h X w' hS')
theorem nxM(hS:Sat E I ms w)(k:Nat){R:Nat}{done left:List (Rw α)}(hm:ms[k]?=some (PH.one R (Xp M clock done clock))){p:PH}(hp:Src I ms p)(hpM:p M=some (Qj key l clock))
  (hok:MapOk l clock)(hperm:(done++left).Perm l)(hg:o.guard=none){it:Operand}(ho:o.op=.next it false)(hit:a.eval it=.pointer (some ⟨R,0,none⟩))
  (hdone:left=[]->wpList P ops Q rest (a.put o.dst (.tuple #[.bool false])) w)
  (hmore:∀r left' w',left.Perm (r::left')->r∈l->Sat E I (ms.set k (PH.one R (Xp M clock (done++[r]) clock))) w'->wpList P ops Q rest (a.put o.dst (.tuple #[.bool true,key r.k,r.v])) w'):wpList P ops Q (o::rest) a w :=
 wpList_plain hg λ_ hK=>wp_nx hS k hm hp hpM hok hperm ho hit (λh0=>hK _ _ (hdone h0)) λr left' w' h1 h2 h3=>hK _ _ (hmore r left' w' h1 h2 h3)
theorem enM(hS:Sat E I ms w){R:Nat}{done:List (Rw α)}{r:Rw α}{p q:PH}(hq:Src I ms q)(hqR:q R=some (Xp M clock (done++[r]) clock))(hp:Src I ms p)(hpM:p M=some (Qj key l clock))
  (hok:MapOk l clock)(hr:r∈l)(hg:o.guard=none){it:Operand}(ho:o.op=.entry it)(hit:a.eval it=.pointer (some ⟨R,0,none⟩))
  (h:wpList P ops Q rest (a.put o.dst (.tuple #[key r.k,r.v])) w):wpList P ops Q (o::rest) a w :=
 wpList_plain hg λ_ hK=>wp_en (hS.src hq) hqR (hS.src hp) hpM hok hr ho hit (hK _ _ h)
end
def ekey(x:Int×Int):Value:=.agg #[.int .i64 x.1,.int .i64 x.2]
section
variable{P:Program} {kt e:TypeId}
theorem eq_ekey(hu:P.underlying kt=some (.array 2 e))(he:P.underlying e=some (.int .i64))(hi:(P.info? e).isSome=true)(hc:P.cellsOf e=1)(w:World)(x y:Int×Int):(Op.equal kt (ekey x) (ekey y)).run P w=.ok (decide (x=y)) w:=by
 obtain⟨i,hi⟩:=yF.1 hi;obtain⟨a,b⟩:=x;obtain⟨c,d⟩:=y;unfold Op.equal Op.maxDepth ekey;rw[show (10000:Nat)=9999+1 from rfl,run_equalIn_array w 9999 _ _ hu hi,hc];have hA:∀w,(isAgg e).run P w=.ok false w:=λw=>by simp[isAgg,run_underlying he]
 have hE:∀(w:World) (a b:Int),(Op.equalIn 9999 e (.int .i64 a) (.int .i64 b)).run P w=.ok (a==b) w:=λw a b=>by
  rw[show (9999:Nat)=9998+1 from rfl];unfold Op.equalIn;simp only[Sem.run_bind,run_underlying he,Result.andThen_ok,jEb,Sem.run_pure]
 simp only[show List.range 2=[0,1] from rfl,Op.eqItems];by_cases h1:a=c <;> by_cases h2:b=d <;> simp[h1,h2,part,hA,hE,jIa]
theorem check_ekey(hu:P.underlying kt=some (.array 2 e))(he:P.underlying e=some (.int .i64))(hi:(P.info? e).isSome=true)(hc:P.cellsOf e=1)(w:World)(em:Bool)(x:Int×Int):(Instr.checkKey em 10000 kt (ekey x)).run P w=.ok () w:=by
 obtain⟨i,hi⟩:=yF.1 hi;obtain⟨a,b⟩:=x;have hc':=hc;have hsz:=run_sizeOf w hi;rw[hc'] at hsz;unfold ekey;rw[show (10000:Nat)=9999+1 from rfl];have hA:∀w,(isAgg e).run P w=.ok false w:=λw=>by simp[isAgg,run_underlying he]
 have hC:∀(w:World) (a:Int),(Instr.checkKey em 9999 e (.int .i64 a)).run P w=.ok () w:=λw a=>by
  rw[show (9999:Nat)=9998+1 from rfl];unfold Instr.checkKey;simp only[Sem.run_bind,run_underlying he,Result.andThen_ok,Sem.run_pure]
 rw[Instr.checkKey];simp only[Sem.run_bind,run_underlying hu,Result.andThen_ok];simp only[Std.Legacy.Range.forIn_eq_forIn_range',Std.Legacy.Range.size,Nat.sub_zero,Nat.add_one_sub_one,Nat.div_one,show List.range' 0 2=[0,1] from rfl];simp[List.forIn_cons,hsz,part,hA,hC]
theorem find_asking{α:Type}[DecidableEq α]{key:α->Value}(heq:∀(w:World) (x y:α),(Op.equal kt (key x) (key y)).run P w=.ok (decide (x=y)) w)(w:World)(x:α):∀(l:List (Rw α)) (i:Nat),(Instr.findAsking kt (key x) (l.map (Rw.ent key)) i).run P w=.ok (look x l i) w
 | [],_=>by simp[Instr.findAsking,look]
 | r::l,i=>by
   simp only[jDb,Instr.findAsking,Sem.run_bind,Rw.ent,heq,Result.andThen_ok];unfold look;by_cases h:r.k=x
   . simp[h]
   . rw[jAa h]
     have:¬x=r.k:=λe=>h e.symm
     simp only[jVa this,jFa,jOb];exact find_asking heq w x l (i+1)
theorem key_ekey(hu:P.underlying kt=some (.array 2 e))(he:P.underlying e=some (.int .i64))(hi:(P.info? e).isSome=true)(hc:P.cellsOf e=1):Key P kt ekey where
 check w em x:=check_ekey hu he hi hc w em x
 find w x l:=by
  unfold Instr.findKey;simp only[Sem.run_bind,run_underlying hu,Result.andThen_ok];cases l with
  | nil=>simp[Instr.findNow,look]
  | cons r l =>
    simp only[jDb,Rw.ent,Instr.findNow,Instr.sameNow,ekey];exact find_asking (eq_ekey hu he hi hc) w x (r::l) 0
 same x:=by simp[ekey,Instr.sameBits]
end
end
section
open Go.RowKit
def ikey(x:Int):Value:=.int .i64 x
section
variable{P:Program} {kt:TypeId}
theorem key_int(hu:P.underlying kt=some (.int .i64)):Key P kt ikey where
 check w em x:=by
  unfold ikey;rw[show (10000:Nat)=9999+1 from rfl];unfold Instr.checkKey;simp only[Sem.run_bind,run_underlying hu,Result.andThen_ok,Sem.run_pure]
 find w x l:=by
  have key:∀(l:List (Rw Int)) (i:Nat),Instr.findNow (.int .i64) (ikey x) (l.map (Rw.ent ikey)) i=some (look x l i):=by
   intro l
   induction l with
   | nil=>intro i;rfl
   | cons r l ih =>
     intro i;have hs:Instr.sameNow (.int .i64) (ikey x) (ikey r.k)=some (x==r.k):=by
      simp[Instr.sameNow,ikey]
     simp only[jDb,Instr.findNow,Rw.ent,hs,look];by_cases h:r.k=x
     . subst h;simp
     . rw[jAa h,show (x==r.k)=false by rw[jGb];exact λe=>h e.symm]
       exact ih (i+1)
  unfold Instr.findKey;simp only[Sem.run_bind,run_underlying hu,Result.andThen_ok,key,Sem.run_pure]
 same x:=by simp[ikey,Instr.sameBits]
end
section
variable{P:Program} {o:Oper} {a:Act} {w E:World} {K:Act->World->Prop} {Q:Exit->Act->World->Prop} {I:PH} {ms:List PH} {ops:Array Oper} {rest:List Oper}
variable{α:Type} [DecidableEq α] {key:α->Value} {kt et T:TypeId} {M:Nat} {l:List (Rw α)} {clock:Nat} {x:α} {v:Value}
theorem inNew(hS:Sat E I ms w)(k:Nat)(hm:ms[k]?=some (PH.one M (Qj key l clock)))(hk:Key P kt key)(ht:P.underlying T=some (.map kt et))(hg:o.guard=none){m y z:Operand}(ho:o.op=.insert T m y z)
  (hem:a.eval m=.map (some M))(hy:a.eval y=key x)(hz:a.eval z=v)(hn:MapOk l clock)(hx:getR l x=none)
  (h:∀w',Sat E I (ms.set k (PH.one M (Qj key (l++[⟨x,v,clock⟩]) (clock+1)))) w'->wpList P ops Q rest (a.put o.dst undef) w'):wpList P ops Q (o::rest) a w :=
 wpList_plain hg λ_ hK=>by
  have h0:=hS.perm (Kd k hm);unfold Oper.wp execOp;simp only[ho,hem,hy,hz,Sem.run_bind,run_update_S hk ht (h0.own _ (.head _) M _ (PH.one_self _ _)) hn.keys,Result.andThen_ok,Sem.run_pure,hx];exact hK _ _ (h _ ((setBlock_step h0).perm (Kl k hm)))
end
theorem isInsert{P:Program}{a:Act}{w:World}{Q:Exit->Act->World->Prop}{ops:Array Oper}{rest:List Oper}{dst:Option Tmp}{type:TypeId}{pos:String}{after:Array Edge}{T:TypeId}{m y z:Operand}(h:wpList P ops Q (⟨dst,.insert T m y z,type,pos,after,none⟩::rest) a w):wpList P ops Q (⟨dst,.insert T m y z,type,pos,after,none⟩::rest) a w:=h
end
section
open Go.RowKit
def baseOf:Value->Nat
 | .slice (some a) _ _=>a.block
 | .pointer (some a)=>a.block
 | .map (some M)=>M
 | _=>0
abbrev VF:=(Nat->Value)->Value->PH->Prop
def Kr(Ds:List VF)(k:Nat):VF:=Ds.getD k (λ_ _ _=>True)
def VLoc(l:List Nat)(d:VF):Prop:=∀vals vals' v J,(∀j∈l,vals j=vals' j)->d vals v J->d vals' v J
def VLasting(A:List (List Nat)):List VF->Nat->Prop
 | [],_=>True
 | d::Ds,k=>((∀vals v I J,PH.le I J->d vals v I->d vals v J)/\VLoc (A.getD k []) d)/\VLasting A Ds (k+1)
theorem VLasting.get{A:List (List Nat)}:∀{Ds:List VF} {n:Nat},VLasting A Ds n->∀k,(∀vals v I J,PH.le I J->Kr Ds k vals v I->Kr Ds k vals v J)/\VLoc (A.getD (n+k) []) (Kr Ds k)
 | [],_,_,_=>⟨λ_ _ _ _ _ h=>h,λ_ _ _ _ _ h=>h⟩
 | d::Ds,n,h,0=>h.1
 | d::Ds,n,h,k+1=>by
   have:=(VLasting.get h.2 k);rw[show n+1+k=n+(k+1) by omega] at this;exact this
theorem region_v{P:Program}{id:Nat}{ops:List Oper}{Q:Exit->Act->World->Prop}{a:Act}{w:World}(A:List (List Nat))(E:World)(I:PH)(ms:List PH)(Ds:List VF)
  (MS:(Nat->Bool)->(Nat->Value)->PH->List PH->Prop)
  (hm:P.follows .mixedOrders=true)(chk:ogOk ops A a.tmps.size=true)(hS:Sat E I ms w)(hMS:MS (λ_=>false) (λ_=>undef) I ms)(lasting:VLasting A Ds 0)
  (step:Below_ (λi=>∀(L:Nat->Bool) (vals:Nat->Value) (J:PH) (ns:List PH) (w':World),L i=false->(∀j,j<ops.length->L j=true->∀k∈A.getD j [],L k=true)->(∀j∈A.getD i [],L j=true)->Given (λj=>Kr Ds j vals (vals j) J) (A.getD i [])->I.le J->Sat E J ns w'->MS L vals J ns ->
    Veil0 (Ze P ops (Qd ops i) (λa' w''=>a'.defers=a.defers/\∃(J':PH) (ns':List PH),J.le J'/\Sat E J' ns' w''/\Kr Ds i vals (Qk (Qd ops i) a') J'/\MS (upd L i true) (upd vals i (Qk (Qd ops i) a')) J' ns') (Qc ops vals a i) w')) ops.length)
  (fin:∀(L:Nat->Bool) (vals:Nat->Value) (J:PH) (ns:List PH) (w':World),I.le J->Below_ (λj=>Kr Ds j vals (vals j) J) ops.length->Sat E J ns w'->(∀j,j<ops.length->L j=true)->MS L vals J ns->Veil0 (Q .normal (Qc ops vals a ops.length) w')) :
  (Code.region id ops.toArray true).wp P Q a w:=by
 have hl:=λk=>by have:=VLasting.get lasting k;rw[jLb] at this;exact this
 refine region_og A E I [] ms (λ_ _ _=>True) (λL vals J ns=>(∀k,k<ops.length->L k=true->Kr Ds k vals (vals k) J)/\MS L vals J ns) hm chk (by simpa using hS) ⟨λk _ h=>(by cases h),hMS⟩ (λ_ _ _ _ _ _=>trivial) ?_ ?_
 . intro i hi L vals J ns w' hLi hdown hanc hJ hs ⟨hF,hN⟩
   refine Xg ((step.get i hi) L vals J ns w' hLi hdown (λj hj=>(hanc j hj).1) (Given.of λj hj=>hF j (by have:=og_lt chk i hi j hj;omega) (hanc j hj).1) hJ (by simpa using hs) hN).out λa' w'' hpost=>?_
   obtain⟨p1,J',ns',p2,p3,p4,p5⟩:=hpost;refine⟨p1,J',ns',p2,by simpa using p3,trivial,λk hk hLk=>?_,p5⟩;by_cases e:k=i
   . subst e
     rw[Qq];refine (hl k).2 _ _ _ _ (λj hj=>?_) p4;rw[Qw];rintro rfl
     have:=(hanc j hj).1;rw[hLi] at this;cases this
   . rw[Qw _ _ e] at hLk ⊢
     refine (hl k).1 _ _ _ _ p2 ?_;refine (hl k).2 _ _ _ _ (λj hj=>?_) (hF k hk hLk);rw[Qw];rintro rfl
     have:=hdown k hk hLk j hj;rw[hLi] at this;cases this
 . intro vals J ns w' hJ hD hs ⟨L,hL,hF,hN⟩
   have hB2:Below_ (λj=>Kr Ds j vals (vals j) J) ops.length:=by
    have:∀n,n<=ops.length->Below_ (λj=>Kr Ds j vals (vals j) J) n:=λn=>by
     induction n with
     | zero=>exact λ_=>trivial
     | succ n ih=>exact λhn=>⟨ih (by omega),hF n (by omega) (hL n (by omega))⟩
    exact this _ (jBb _)
   exact (fin L vals J ns w' hJ hB2 (by simpa using hs) hL hN).out
structure Mkr where
 i:Nat
 val:Nat->Value
 obj:(Nat->Value)->Obj
def Zi(mks:List Mkr)(L:Nat->Bool)(vals:Nat->Value):List PH:=mks.filterMap λm=>if L m.i=true then some (PH.one (baseOf (vals m.i)) (m.obj vals)) else none
theorem piecesL_plain{L:Nat->Bool}{vals:Nat->Value}{k:Nat}{v:Value}:∀{mks:List Mkr},(∀m∈mks,m.i≠k/\(L m.i=true->m.obj (upd vals k v)=m.obj vals))->Zi mks (upd L k true) (upd vals k v)=Zi mks L vals
 | [],_=>rfl
 | m::mks,h=>by
   have ih:=piecesL_plain (mks:=mks) (k:=k) (v:=v) λq hq=>h q (.tail _ hq)
   obtain⟨h1,h2⟩:=h m (.head _);unfold Zi at ih ⊢;rw[List.filterMap_cons,List.filterMap_cons,Qw _ _ h1,Qw _ _ h1,ih];cases hL:L m.i with
   | true=>rw[h2 hL]
   | false=>simp
theorem piecesL_make:∀{mks:List Mkr} {L:Nat->Bool} {vals:Nat->Value} {m:Mkr} {X:Nat},mks.Pairwise (λa b=>a.i≠b.i)->m∈mks->L m.i=false->baseOf (m.val X)=X->m.obj (upd vals m.i (m.val X))=m.obj vals ->
  (∀q∈mks,L q.i=true->q.obj (upd vals m.i (m.val X))=q.obj vals)->(Zi mks (upd L m.i true) (upd vals m.i (m.val X))).Perm (PH.one X (m.obj vals)::Zi mks L vals)
 | n::mks,L,vals,m,X,hp,hm,hL,hb,ho,hq=>by
   obtain⟨h1,h2⟩:=jLa.1 hp;rcases jBa.1 hm with rfl|hm
   . have:=piecesL_plain (mks:=mks) (L:=L) (vals:=vals) (k:=m.i) (v:=m.val X) (λq hq'=>⟨(h1 q hq').symm,hq q (.tail _ hq')⟩)
     unfold Zi at this ⊢;rw[List.filterMap_cons,List.filterMap_cons,this,Qq,jAb rfl,Qq,hb,jAa (by rw[hL];simp),ho]
   . have ih:=piecesL_make (vals:=vals) h2 hm hL hb ho λq hq'=>hq q (.tail _ hq')
     unfold Zi at ih ⊢;rw[List.filterMap_cons,List.filterMap_cons,Qw _ _ (h1 m hm),Qw _ _ (h1 m hm)];cases hLn:L n.i with
     | true=>rw[jAb rfl,hq n (.head _) hLn];exact (ih.cons _).trans (List.Perm.swap _ _ _)
     | false=>rw[jAa (by simp)];exact ih
theorem piecesL_all{mks:List Mkr}{L:Nat->Bool}{vals:Nat->Value}(h:∀m∈mks,L m.i=true):Zi mks L vals=mks.map λm=>PH.one (baseOf (vals m.i)) (m.obj vals):=by
 unfold Zi
 induction mks with
 | nil=>rfl
 | cons m mks ih =>
   rw[List.filterMap_cons,h m (.head _),jAb rfl,jDb,ih λq hq=>h q (.tail _ hq)]
def mkrOk(A:List (List Nat))(n:Nat)(mks:List Mkr):Prop:=mks.Pairwise (λa b=>a.i≠b.i)/\∀m∈mks,m.i<n/\(∀X,baseOf (m.val X)=X)/\∀vals vals',(∀j∈A.getD m.i [],vals j=vals' j)->m.obj vals=m.obj vals'
theorem region_mk{P:Program}{id:Nat}{ops:List Oper}{Q:Exit->Act->World->Prop}{a:Act}{w:World}(A:List (List Nat))(E:World)(I:PH)(ms:List PH)(Ds:List VF)(mks:List Mkr)
  (hm:P.follows .mixedOrders=true)(chk:ogOk ops A a.tmps.size=true)(hS:Sat E I ms w)(lasting:VLasting A Ds 0)(hb:mkrOk A ops.length mks)(hd:∀m∈mks,∀vals X J,Kr Ds m.i vals (m.val X) J)
  (plain:Below_ (λk=>(mks.any λm=>m.i==k)=true\/∀(vals:Nat->Value) (J:PH) (bs:List PH) (w':World),(∀p∈ms,p∈bs)->Given (λj=>Kr Ds j vals (vals j) J) (A.getD k [])->I.le J->Sat E J bs w' ->
    Veil0 (Ze P ops (Qd ops k) (λa' w''=>a'.defers=a.defers/\∃J':PH,J.le J'/\Sat E J' bs w''/\Kr Ds k vals (Qk (Qd ops k) a') J') (Qc ops vals a k) w')) ops.length)
  (make:∀m∈mks,∀(vals:Nat->Value) (J:PH) (bs:List PH) (w':World),(∀p∈ms,p∈bs)->Given (λj=>Kr Ds j vals (vals j) J) (A.getD m.i [])->I.le J->Sat E J bs w' ->
    Veil0 (Ze P ops (Qd ops m.i) (λa' w''=>a'.defers=a.defers/\∃(J':PH) (X:Nat),J.le J'/\Qk (Qd ops m.i) a'=m.val X/\Sat E J' (PH.one X (m.obj vals)::bs) w'') (Qc ops vals a m.i) w'))
  (fin:∀(vals:Nat->Value) (J:PH) (w':World),I.le J->Below_ (λj=>Kr Ds j vals (vals j) J) ops.length->Sat E J ((mks.map λm=>PH.one (baseOf (vals m.i)) (m.obj vals))++ms) w'->Veil0 (Q .normal (Qc ops vals a ops.length) w')) :
  (Code.region id ops.toArray true).wp P Q a w:=by
 refine region_v A E I ms Ds (λL vals _ ns=>ns=ms++Zi mks L vals) hm chk hS ?_ lasting ?_ ?_
 . have:Zi mks (λ_=>false) (λ_=>undef)=[]:=by
     unfold Zi;rw[List.filterMap_eq_nil_iff];intro m _;simp
   rw[this,jZb]
 . have key:∀k,k<ops.length->∀(L:Nat->Bool) (vals:Nat->Value) (J:PH) (ns:List PH) (w':World),L k=false->(∀j,j<ops.length->L j=true->∀k∈A.getD j [],L k=true)->(∀j∈A.getD k [],L j=true)->Given (λj=>Kr Ds j vals (vals j) J) (A.getD k [])->I.le J->Sat E J ns w'->ns=ms++Zi mks L vals ->
      Veil0 (Ze P ops (Qd ops k) (λa' w''=>a'.defers=a.defers/\∃(J':PH) (ns':List PH),J.le J'/\Sat E J' ns' w''/\Kr Ds k vals (Qk (Qd ops k) a') J'/\ns'=ms++Zi mks (upd L k true) (upd vals k (Qk (Qd ops k) a'))) (Qc ops vals a k) w'):=by
     intro k hk L vals J ns w' hLk hdown hanc hg hJ hs hns;subst hns;have stay:∀v,∀q∈mks,L q.i=true->q.obj (upd vals k v)=q.obj vals:=λv q hq hL=>(hb.2 q hq).2.2 (upd vals k v) vals λj hj=>by
      rw[Qw];rintro rfl
      have:=hdown q.i (hb.2 q hq).1 hL j hj;rw[hLk] at this;cases this
     by_cases hk2:∃m∈mks,m.i=k
     . obtain⟨m,hmm,rfl⟩:=hk2
       refine⟨Xg (make m hmm vals J _ w' (λp hp=>jRa _ hp) hg hJ hs).out λa' w'' hpost=>?_⟩;obtain⟨p1,J',X,p2,p3,p4⟩:=hpost;refine⟨p1,J',_,p2,?_,?_,rfl⟩
       . rw[p3]
         refine p4.perm ?_;refine (jU.symm).trans ?_;refine List.Perm.append_left ms (piecesL_make hb.1 hmm hLk ((hb.2 m hmm).2.1 X) ?_ (stay _)).symm;exact (hb.2 m hmm).2.2 (upd vals m.i (m.val X)) vals λj hj=>by
          rw[Qw];intro e
          have:=hanc j hj;rw[e,hLk] at this;cases this
       . rw[p3];exact hd m hmm _ X J'
     . rcases plain.get k hk with h|h
       . rw[kX] at h
         obtain⟨m,hmm,e⟩:=h;exact absurd ⟨m,hmm,by simpa using e⟩ hk2
       . refine⟨Xg (h vals J _ w' (λp hp=>jRa _ hp) hg hJ hs).out λa' w'' hpost=>?_⟩
         obtain⟨p1,J',p2,p3,p4⟩:=hpost;refine⟨p1,J',_,p2,p3,p4,?_⟩;rw[piecesL_plain λm hmm=>⟨λe=>hk2 ⟨m,hmm,e⟩,stay _ m hmm⟩]
   have:∀n,n<=ops.length->Below_ (λi=>∀(L:Nat->Bool) (vals:Nat->Value) (J:PH) (ns:List PH) (w':World),L i=false->(∀j,j<ops.length->L j=true->∀k∈A.getD j [],L k=true)->(∀j∈A.getD i [],L j=true)->Given (λj=>Kr Ds j vals (vals j) J) (A.getD i [])->I.le J->Sat E J ns w'->ns=ms++Zi mks L vals ->
     Veil0 (Ze P ops (Qd ops i) (λa' w''=>a'.defers=a.defers/\∃(J':PH) (ns':List PH),J.le J'/\Sat E J' ns' w''/\Kr Ds i vals (Qk (Qd ops i) a') J'/\ns'=ms++Zi mks (upd L i true) (upd vals i (Qk (Qd ops i) a'))) (Qc ops vals a i) w')) n:=λn=>by
    induction n with
    | zero=>exact λ_=>trivial
    | succ n ih=>exact λhn=>⟨ih (by omega),key n (by omega)⟩
   exact this _ (jBb _)
 . intro L vals J ns w' hJ hD hs hL hns
   subst hns;rw[piecesL_all λm hmm=>hL _ (hb.2 m hmm).1] at hs;exact fin vals J w' hJ hD (hs.perm jIb)
end
section
open Go.RowKit
def PH.all:List PH->PH
 | []=>λ_=>none
 | m::l=>m.join (PH.all l)
theorem PH.all_some{l:List PH}{b:Nat}{o:Obj}(h:PH.all l b=some o):∃m∈l,m b=some o:=by
 induction l with
 | nil=>cases h
 | cons m l ih =>
   unfold PH.all PH.join at h;cases hm:m b with
   | some u=>rw[hm] at h;exact⟨m,.head _,by rw[hm];exact h⟩
   | none =>
     rw[hm] at h;obtain⟨n,hn,h1⟩:=ih h;exact⟨n,.tail _ hn,h1⟩
theorem PH.all_mem{l:List PH}(hd:l.Pairwise PH.off){m:PH}(hm:m∈l):m.le (PH.all l):=by
 induction l with
 | nil=>cases hm
 | cons n l ih =>
   obtain⟨h1,h2⟩:=jLa.1 hd;intro b o hb;unfold PH.all PH.join;rcases jBa.1 hm with rfl|hm
   . rw[hb]
   . rcases h1 m hm b with h|h
     . rw[h];exact ih h2 hm b o hb
     . rw[hb] at h;cases h
def Bd(m:PH)(l:List PH):Prop:=m=PH.all l/\l.Pairwise PH.off
section
variable{E w:World} {I m:PH} {l ms:List PH}
theorem Sat.pack(l:List PH)(h:Sat E I (l++ms) w):∃m,Bd m l/\Sat E I (m::ms) w:=by
 obtain⟨d1,d2,d3⟩:=kT.1 h.dis;refine⟨PH.all l,⟨rfl,d1⟩,h.os,h.tape,h.output,h.imm,λp hp b o hb=>?_,λp hp b=>?_,jLa.2 ⟨λp hp b=>?_,d2⟩,h.size⟩
 . rcases jBa.1 hp with rfl|hp
   . obtain⟨q,hq,h1⟩:=PH.all_some hb
     exact h.own q (jRa _ hq) b o h1
   . exact h.own p (kFb _ hp) b o hb
 . rcases jBa.1 hp with rfl|hp
   . cases hb:PH.all l b with
     | none=>exact .inl rfl
     | some o =>
       obtain⟨q,hq,h1⟩:=PH.all_some hb;rcases h.sep q (jRa _ hq) b with h2|h2
       . rw[h1] at h2;cases h2
       . exact .inr h2
   . exact h.sep p (kFb _ hp) b
 . cases hb:PH.all l b with
   | none=>exact .inl rfl
   | some o =>
     obtain⟨q,hq,h1⟩:=PH.all_some hb;rcases d3 q hq p hp b with h2|h2
     . rw[h1] at h2;cases h2
     . exact .inr h2
theorem Sat.unpack(hb:Bd m l)(h:Sat E I (m::ms) w):Sat E I (l++ms) w:=by
 obtain⟨rfl,hd⟩:=hb;obtain⟨d1,d2⟩:=jLa.1 h.dis;have hle:∀{p},p∈l->p.le (PH.all l):=λhp=>PH.all_mem hd hp
 have hnone:∀{p b},p∈l->PH.all l b=none->p b=none:=λ{p b} hp h0=>by
  cases hpb:p b with
  | none=>rfl
  | some o=>rw[hle hp b o hpb] at h0;cases h0
 refine⟨h.os,h.tape,h.output,h.imm,λp hp b o hpb=>?_,λp hp b=>?_,kT.2 ⟨hd,d2,λp hp q hq b=>?_⟩,h.size⟩
 . rcases jH.1 hp with hp|hp
   . exact h.own _ (.head _) b o (hle hp b o hpb)
   . exact h.own p (.tail _ hp) b o hpb
 . rcases jH.1 hp with hp|hp
   . rcases h.sep _ (.head _) b with h0|h0
     . exact .inl (hnone hp h0)
     . exact .inr h0
   . exact h.sep p (.tail _ hp) b
 . rcases d1 q hq b with h0|h0
   . exact .inl (hnone hp h0)
   . exact .inr h0
theorem Sat.pick(h:Sat E I ms w)(k:Nat)(hm:ms[k]?=some m):Sat E I (m::ms.eraseIdx k) w:=h.perm (Kd k hm)
theorem Sat.back{m':PH}(k:Nat)(hm:ms[k]?=some m)(h:Sat E I (m'::ms.eraseIdx k) w):Sat E I (ms.set k m') w:=h.perm (Kl k hm)
end
section
variable{P:Program} {o:Oper} {a:Act} {w E:World} {K:Act->World->Prop} {Q:Exit->Act->World->Prop} {I:PH} {ms:List PH}
def spl(xs:List Value)(off:Nat)(us:List Value):List Value:=xs.take off++us++xs.drop (off+us.length)
theorem spl_len{xs us:List Value}{off:Nat}(h:off+us.length<=xs.length):(spl xs off us).length=xs.length:=by unfold spl;simp;omega
theorem wp_stM(hS:Sat E I ms w)(k:Nat){T:TypeId}{x y:Operand}(ho:o.op=.store T x y){X off:Nat}{c:Array Value}{T':TypeId}{v:Value}(hx:a.eval x=.pointer (some ⟨X,off,none⟩))(hy:a.eval y=v)
  (hm:ms[k]?=some (PH.one X (.cells c T' (0,0))))(hs:Kg P T=some v.cells.size)(hlt:off+v.cells.size<=c.size)(h1:∀u∈v.cells.toList,u.oneCell'=true)
  (h:∀w',Sat E I (ms.set k (PH.one X (.cells (spl c.toList off v.cells.toList).toArray T'))) w'->K (a.put o.dst undef) w'):o.wp P a w K Q:=by
 unfold Oper.wp execOp;have h0:=hS.perm (Kd k hm);have hg:=h0.own _ (.head _) X _ (PH.one_self _ _);have hst:=run_storeCells_at (P:=P) X off T' v.cells.toList 0 c w hg (by simpa using hlt) h1;have hsz:=Zx hs;simp only[Nat.add_zero] at hst;simp only[ho,hx,hy,Instr.storeAt,Instr.sureAddr,Sem.run_bind,Sem.run_pure,Result.andThen_ok];cases hq:P.info? T with
 | none=>rw[hq] at hsz;cases hsz
 | some i =>
   have hs':v.cells.size=i.size:=by rw[hq] at hsz;simpa using hsz.symm
   have hv:(storeVar T ⟨X,off,none⟩ v).run P w=.ok () (w.setRow X (spl c.toList off v.cells.toList).toArray):=by
    unfold spl;simp[storeVar,sizeOf,typeInfo,hq,hs',hst]
   rw[hv];exact h _ ((setRow_step h0).perm (Kl k hm))
theorem Zz(hS:Sat E I ms w)(k:Nat){m:PH}(hm:ms[k]?=some m){T e:TypeId}{x y:Operand}(ho:o.op=.store T x y){X off n c size i:Nat}{xs:List Value}{v:Value}(hx:a.eval x=.pointer (some ⟨X,off,none⟩))(hy:a.eval y=v)
  (hO:OwnP m e size (.slice (some ⟨X,0,none⟩) n c) n xs)(hoff:off=i*size)(hi:i<n)(hs:Kg P T=some size)(hv:v.cells.size=size)(h1:∀u∈v.cells.toList,u.oneCell'=true)
  (h:∀m' w',OwnP m' e size (.slice (some ⟨X,0,none⟩) n c) n (spl xs off v.cells.toList)->Sat E I (ms.set k m') w'->K (a.put o.dst undef) w'):o.wp P a w K Q:=by
 subst hoff;have hle:i*size+size<=n*size:=by rw[<- kIa];exact jSb _ hi
 rcases hO.2 with⟨h0,_⟩|⟨g,cap,cur,hvs,rfl,hnc,hcm,hcs,htk⟩
 . cases h0
 . injection hvs with hA _ hC
   injection hA with hA
   injection hA with hA
   subst hA hC;have hns:n*size<=c*size:=jSb _ hnc;refine wp_stM hS k ho hx hy hm (by rw[hv];exact hs) (by rw[hv];omega) h1 λw' hS'=>h _ w' ⟨?_,.inr ⟨X,c,_,rfl,rfl,hnc,hcm,?_,?_⟩⟩ hS'
   . rw[spl_len (by rw[hO.1];simp[hv];omega)];exact hO.1
   . simp only[jS]
     rw[spl_len (by simp[hv];omega)];simpa using hcs
   . simp only
     rw[<- htk];have hvl:v.cells.toList.length=size:=by simpa using hv
     generalize v.cells.toList=us at *
     generalize cur.toList=cs at *
     have hcl:n*size<=cs.length:=by
      have:=hO.1;rw[<- htk,jSa] at this;omega
     unfold spl;have e1:(cs.take (n*size)).take (i*size)=cs.take (i*size):=by rw[List.take_take,kCa (by omega)]
     have e2:(cs.take (n*size)).drop (i*size+us.length)=(cs.drop (i*size+us.length)).take (n*size-(i*size+us.length)):=List.drop_take;have e3:(cs.take (i*size)++us).length=i*size+us.length:=by simp;omega
     rw[e1,e2,List.take_append,e3,jK (by rw[e3];omega)]
theorem st_row{ops:Array Oper}{rest:List Oper}(k:Nat)(hS:Sat E I ms w)(hg:o.guard=none){m:PH}(hm:ms[k]?=some m){T e:TypeId}{x y:Operand}(ho:o.op=.store T x y){X off n c size i:Nat}{xs:List Value}{v:Value}(hx:a.eval x=.pointer (some ⟨X,off,none⟩))(hy:a.eval y=v)
  (hO:OwnP m e size (.slice (some ⟨X,0,none⟩) n c) n xs)(hoff:off=i*size)(hi:i<n)(hs:Kg P T=some size)(hv:v.cells.size=size)(h1:∀u∈v.cells.toList,u.oneCell'=true)
  (h:∀m' w',OwnP m' e size (.slice (some ⟨X,0,none⟩) n c) n (spl xs off v.cells.toList)->Sat E I (ms.set k m') w'->wpList P ops Q rest (a.put o.dst undef) w'):wpList P ops Q (o::rest) a w :=
 wpList_plain hg λ_ hK=>Zz hS k hm ho hx hy hO hoff hi hs hv h1 λm' w' h2 h3=>hK _ _ (h m' w' h2 h3)
end
section
variable{α:Type} {f:α->List Value} {size:Nat}
theorem Ks(hf:∀x,(f x).length=size):∀l:List α,(l.flatMap f).length=l.length*size
 | []=>by simp
 | x::l=>by rw[jMb,yG,hf,Ks hf l,yB,kIa];omega
theorem flat_split(hf:∀x,(f x).length=size):∀(l:List α) (i:Nat),(l.flatMap f).take (i*size)=(l.take i).flatMap f/\(l.flatMap f).drop (i*size)=(l.drop i).flatMap f
 | l,0=>by simp
 | [],i+1=>by simp
 | x::l,i+1=>by
   obtain⟨h1,h2⟩:=flat_split hf l i;have e:(i+1)*size=(f x).length+i*size:=by rw[hf,kIa];omega
   rw[jMb,e,List.take_length_add_append,List.drop_length_add_append,h1,h2,List.take_succ_cons,jMb,kOa];exact⟨rfl,rfl⟩
theorem flat_set(hf:∀x,(f x).length=size)(l:List α)(i:Nat)(hi:i<l.length)(x:α):spl (l.flatMap f) (i*size) (f x)=(l.set i x).flatMap f:=by
 unfold spl;obtain⟨h1,_⟩:=flat_split hf l i;obtain⟨_,h2⟩:=flat_split hf l (i+1);rw[h1,hf,show i*size+size=(i+1)*size by rw[kIa],h2,List.set_eq_take_append_cons_drop,jAb hi,jNb,jMb,jE]
theorem flat_get(hf:∀x,(f x).length=size)(l:List α)(i:Nat)(x:α)(hx:l[i]?=some x):((l.flatMap f).drop (i*size)).take size=f x:=by
 obtain⟨_,h2⟩:=flat_split hf l i;have hi:=(yE.1 hx).1;rw[h2,jL hi,jMb,(yE.1 hx).2,kGb (by rw[hf];exact jBb _),jK (by rw[hf];exact jBb _)]
theorem Qs{m:PH}{e:TypeId}{X n c:Nat}{l:List α}(hf:∀x,(f x).length=size)(hO:OwnP m e size (.slice (some ⟨X,0,none⟩) n c) n (l.flatMap f)){i:Nat}{x:α}(hx:l[i]?=some x):Cells m X (i*size) (f x):=by
 have hi:=(yE.1 hx).1;have hn:0<n\/size=0:=by
  have:=hO.1;rw[Ks hf] at this;rcases kQb n with h|h
  . subst h
    rw[kWa] at this;rcases Nat.mul_eq_zero.1 this with h2|h2
    . omega
    . exact .inr h2
  . exact .inl h
 rcases hn with hn|hn
 . obtain⟨g,hg,hc⟩:=hO.cells hn
   injection hg with hg
   injection hg with hg
   subst hg
   have:=hc.part (i*size) size;rw[flat_get hf l i x hx,jLb] at this;exact this
 . subst hn
   have:f x=[]:=jQb (hf x);rw[this];intro j v hj;simp at hj
end
end
section
open Go.RowKit
theorem Qh:Ky Tryz.prog 3=some false:=by kernel_rfl
theorem Yg:Kg Tryz.prog 3=some 1:=by kernel_rfl
theorem ty_z3:Xh Tryz.prog 3=some (.int .i64 0):=by kernel_rfl
theorem ty_agg4:Ky Tryz.prog 4=some false:=by kernel_rfl
theorem ty_sz4:Kg Tryz.prog 4=some 1:=by kernel_rfl
theorem ty_z4:Xh Tryz.prog 4=some (.bool false):=by kernel_rfl
theorem ty_agg194:Ky Tryz.prog 194=some true:=by kernel_rfl
theorem Qz:Kg Tryz.prog 194=some 5:=by kernel_rfl
theorem Xb:Xh Tryz.prog 194=some (.agg #[.int .i64 0,.int .i64 0,.int .i64 0,.int .i64 0,.int .i64 0]):=by kernel_rfl
theorem node_info:(Tryz.prog.info? 194).map (λi=>(i.zero,i.size,i.bytes))=some (some (.agg #[.int .i64 0,.int .i64 0,.int .i64 0,.int .i64 0,.int .i64 0]),5,40):=by kernel_rfl
theorem bool_info:(Tryz.prog.info? 4).map (λi=>(i.zero,i.size,i.bytes))=some (some (.bool false),1,1):=by kernel_rfl
theorem Ko:(Tryz.prog.info? 3).map (λi=>(i.zero,i.size,i.bytes))=some (some (.int .i64 0),1,8):=by kernel_rfl
abbrev node0:Array Value := #[.int .i64 0,.int .i64 0,.int .i64 0,.int .i64 0,.int .i64 0]
theorem made_node:madeCells (Value.cells (.agg #[.int .i64 0,.int .i64 0,.int .i64 0,.int .i64 0,.int .i64 0])) (1*5)=node0:=by kernel_rfl
theorem made_bool:madeCells (Value.cells (.bool false)) (1*1) = #[.bool false]:=by kernel_rfl
abbrev vSl(n:Nat)(X:Nat):Value:=.slice (some ⟨X,0,none⟩) n n
abbrev vPt(X:Nat):Value:=.pointer (some ⟨X,0,none⟩)
theorem pnew_ok(E:World)(I:PH)(ms:List PH)(room:Int)(w:World)(h1:1<=room)(h2:room<=1048576)(hS:Sat E I ms w) :
  Calls Tryz.prog 113 #[.int .i64 room] w λe w'=>∃X A T,e=.returned (.tuple #[.pointer (some ⟨X,0,none⟩),.int .i64 0]) /\
   Sat E I (PH.one X (.cells #[.int .i64 room,.slice (some ⟨A,0,none⟩) 1 1,.slice (some ⟨T,0,none⟩) 1 1,.slice none 0 0,.int .i64 0] 216)::PH.one A (.cells node0 194)::PH.one T (.cells #[.bool false] 4)::ms) w':=by
 go_enter Tryz.func113,Tryz.ntmps113;go_wp2_with fail
 refine region_mk [[],[],[],[0,1,2],[0,1,2,3],[0,1,2,3,4],[0,1,2,3,4,5]] E I ms
  [λ_ v _=>v=.int .i64 room,λ_ v _=>∃X,v=vSl 1 X,λ_ v _=>∃X,v=vSl 1 X,λvals v _=>v=.agg #[.int .i64 room,vals 1,vals 2,.slice none 0 0,.int .i64 0],λ_ v _=>∃X,v=vPt X,λvals v _=>v=vals 4,λ_ v _=>v=.int .i64 0]
  [⟨4,vPt,λvals=>.cells (vals 3).cells 216⟩,⟨1,vSl 1,λ_=>.cells node0 194⟩,⟨2,vSl 1,λ_=>.cells #[.bool false] 4⟩]
  (by kernel_rfl) (by kernel_rfl) hS ?last ?ok ?mkd ?plain ?make ?fin
 case last=>(repeat' (first|exact trivial|apply And.intro)) <;> (first|exact (λ_ _ _ _ _ h=>h)|(intro vals vals' v J h e;  (simp only[zH,zI,List.forall_mem_cons] at h;simp_all)))
 case ok=>refine⟨by simp,λm hm=>?_⟩;simp only[jBa,jCa,jJb] at hm;(repeat' (rcases hm with rfl|hm)) <;> (try subst hm) <;> exact⟨by decide,λX=>rfl,λvals vals' h=>by first|rfl|(simp only[zH,zI,List.forall_mem_cons] at h;simp_all)⟩
 case mkd =>
  intro m hm vals X J;simp only[jBa,jCa,jJb] at hm;rcases hm with rfl|rfl|rfl <;> exact⟨X,rfl⟩
 case plain =>
  repeat' (first|exact trivial|apply And.intro)
  all_goals first|exact .inl rfl|skip
  all_goals
   refine .inr ?_;intro vals J bs w hsub hg hJ hS
   first
   | (refine Veil.out ?_
      obtain⟨A,hA⟩:∃A,vals 1=vSl 1 A:=hg.get 1 (by decide);obtain⟨T,hT⟩:∃A,vals 2=vSl 1 A:=hg.get 2 (by decide);refine⟨?_⟩;have hg0:vals 0=.int .i64 room:=hg.get 0 (by decide);simp only[zH,zI,Given,Kr] at hg;simp only[Qc,Qo,Qi,Qd,zH,zI,zA,zB,zK,jEb,Act.put,zE,zF,zG,hg0,hA,hT];refine bU ?_;intro K HK;go_wp2_with fail
      refine HK.out _ _ ⟨rfl,J,PH.le.refl _,hS,?_⟩;clear HK;simp only[Kr,Qk,zH,zI,zD,zC,zA,zB,zJ];rw[hA,hT])
   | (simp only[zH,zI,Given,Kr] at hg;simp only[Qc,Qo,Qi,Qd,zH,zI,zA,zB,zK,jEb,Act.put,zE,zF,zG,hg];refine bU ?_;intro K HK;go_wp2_with fail;refine HK.out _ _ ⟨rfl,J,PH.le.refl _,hS,?_⟩;clear HK;simp only[Kr,Qk,zH,zI,zD,zC,zA,zB,zJ])
 case make =>
  clear hS;intro m hm;simp only[jBa,jCa,jJb] at hm;rcases hm with rfl|rfl|rfl
  all_goals intro vals J bs w hsub hg hJ hS
  . simp only[zH,zI,Given,Kr] at hg;simp only[Qc,Qo,Qi,Qd,zH,zI,zA,zB,zK,jEb,Act.put,zE,zF,zG,hg];refine bU ?_;intro K HK
    refine wp_bx hS rfl rfl λX w hS=>?_
    refine HK.out _ _ ⟨rfl,J,X,PH.le.refl _,?_,hS⟩;simp only[Qk,Act.put,zE,zF,zG,zD,zC,zA,zB,zJ]
  . simp only[zH,zI,Given,Kr] at hg;simp only[Qc,Qo,Qi,Qd,zH,zI,zB,zK,jEb,Act.put,zE,zF,zG];refine bU ?_;intro K HK
    refine wp_mks hS rfl Tryz.underlying214 node_info rfl rfl rfl rfl (jBb _) (by decide) (by decide) λX w hS=>?_
    rw[made_node] at hS;refine HK.out _ _ ⟨rfl,J,X,PH.le.refl _,?_,hS⟩;simp only[Qk,Act.put,zE,zF,zG,zD,zC,zA,zB,zJ]
  . simp only[zH,zI,Given,Kr] at hg;simp only[Qc,Qo,Qi,Qd,zH,zI,zA,zB,zK,jEb,Act.put,zE,zF,zG];refine bU ?_;intro K HK
    refine wp_mks hS rfl Tryz.underlying24 bool_info rfl rfl rfl rfl (jBb _) (by decide) (by decide) λX w hS=>?_
    rw[made_bool] at hS;refine HK.out _ _ ⟨rfl,J,X,PH.le.refl _,?_,hS⟩;simp only[Qk,Act.put,zE,zF,zG,zD,zC,zA,zB,zJ]
 case fin =>
  clear hS;intro vals J w hJ hg hS;obtain⟨A,hA⟩:∃A,vals 1=vSl 1 A:=hg.get 1 (by decide);obtain⟨T,hT⟩:∃A,vals 2=vSl 1 A:=hg.get 2 (by decide);obtain⟨X,hX⟩:∃A,vals 4=vPt A:=hg.get 4 (by decide);have h3:vals 3=.agg #[.int .i64 room,vals 1,vals 2,.slice none 0 0,.int .i64 0]:=hg.get 3 (by decide);simp only[jDb,jZ,h3,hA,hT,hX,baseOf,List.cons_append,List.nil_append] at hS;have hS:=hS.less hJ;simp only[yB,yC,Nat.reduceAdd,Below_,Kr,zH,zI,kS] at hg;simp only[yB,yC,Nat.reduceAdd,Qc,Qo,Qi,zA,zB,zK,jEb,Act.put,zE,zF,zG,hg];refine⟨?_⟩;go_wp2
  go_ret2;exact⟨X,A,T,jNa (λv=>Ending.returned (.tuple #[v,.int .i64 0])) hX,hS⟩
end
end Go.Proofs.YtidamcdklgfogaaGreat
