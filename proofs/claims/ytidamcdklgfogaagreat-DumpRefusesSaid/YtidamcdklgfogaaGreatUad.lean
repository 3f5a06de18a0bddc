import Derived.Test.YtidamcdklgfogaaGreatUac
import Derived.Laws.MakeOwn
set_option linter.unusedVariables false
set_option linter.unusedSimpArgs false
namespace Go.Proofs.YtidamcdklgfogaaGreat
section
open Go.RowKit
def OwnP(m:PH)(e:TypeId)(size:Nat)(v:Value)(n:Nat)(xs:List Value):Prop :=
 xs.length=n*size/\((v=.slice none 0 0/\n=0/\m=λ_=>none) \/
  ∃g cap cur,v=.slice (some ⟨g,0,none⟩) n cap/\m=PH.one g (.cells cur e (0,0))/\n<=cap/\cap<=maxLen/\cap*size<=cur.size/\cur.toList.take (n*size)=xs)
section
variable{E w w':World} {I m:PH} {ms:List PH} {e:TypeId} {size n:Nat} {v:Value} {xs:List Value}
theorem OwnP.nil(e:TypeId)(size:Nat):OwnP (λ_=>none) e size (.slice none 0 0) 0 []:=⟨by simp,.inl ⟨rfl,rfl,rfl⟩⟩
theorem OwnP.lit(g:Nat)(e:TypeId)(size n:Nat)(cs:Array Value)(hn:n<=maxLen)(hc:cs.size=n*size):OwnP (PH.one g (.cells cs e)) e size (.slice (some ⟨g,0,none⟩) n n) n cs.toList :=
 ⟨by simpa using hc,.inr ⟨g,n,cs,rfl,rfl,jBb _,hn,by omega,by rw[jK (by simp;omega)]⟩⟩
theorem OwnP.own(h:OwnP m e size v n xs)(hm:m.le (Qa w)):Own w 0 e size v n xs:=by
 refine⟨h.1,?_⟩;rcases h.2 with⟨h1,h2,_⟩|⟨g,cap,cur,rfl,rfl,h3⟩
 . exact .inl ⟨h1,h2⟩
 . exact .inr ⟨g,cap,cur,rfl,jC _,hm g _ (PH.one_self _ _),h3⟩
theorem OwnP.shape(h:OwnP m e size v n xs):∃A cap,v=.slice A n cap/\n<=cap:=by
 rcases h.2 with⟨rfl,rfl,_⟩|⟨g,cap,cur,rfl,_,hc,_⟩
 . exact⟨none,0,rfl,by omega⟩
 . exact⟨_,cap,rfl,hc⟩
theorem OwnP.cells{A:Option Addr}{c:Nat}(h:OwnP m e size (.slice A n c) n xs)(hn:0<n):∃g,A=some ⟨g,0,none⟩/\Cells m g 0 xs:=by
 rcases h.2 with⟨_,h0,_⟩|⟨g,cap,cur,hv,rfl,_,_,_,ht⟩
 . omega
 . injection hv with hA
   subst hA;refine⟨g,rfl,λj u hj=>?_⟩;refine Cells.one g cur e (0,0) j u ?_;rw[<- ht,kH] at hj;split at hj
   . exact hj
   . cases hj
theorem OwnP.le_max(h:OwnP m e size v n xs):n<=maxLen:=by
 rcases h.2 with⟨_,rfl,_⟩|⟨g,cap,cur,_,_,h1,h2,_⟩
 . exact jC _
 . omega
theorem OwnP.of_own{E w w':World}{I:PH}(h:OwnP m e size v n xs)(hS:Sat E I (m::ms) w){v':Value}{n':Nat}{ys:List Value}(ho:Own w' 0 e size v' n' ys)(hg:w.grownBy w' v.ownBlock)
  (hv:v'.ownBlock=v.ownBlock\/v'.ownBlock=some w.heap.size):∃m',OwnP m' e size v' n' ys/\Sat E I (m'::ms) w':=by
 have hblk:∀b,m b=none->b<w.heap.size->some b≠v.ownBlock:=λb hb _ he=>by
  rcases h.2 with⟨rfl,_⟩|⟨g,cap,cur,rfl,rfl,_⟩
  . cases he
  . simp only[Value.ownBlock,jEa] at he
    subst he;rw[PH.one_self] at hb;cases hb
 have keep:∀b,b<w.heap.size->m b=none->w'.heap[b]?=w.heap[b]?:=λb hb h0=>hg.block b hb (hblk b h0 hb)
 rcases ho.2 with⟨rfl,rfl⟩|⟨g,cap,cur,rfl,_,hh,hc⟩
 . exact⟨λ_=>none,⟨ho.1,.inl ⟨rfl,rfl,rfl⟩⟩,hS.change hg.size hg.os hg.tape hg.output keep (λb o hb=>by cases hb) (λb _ _=>rfl)⟩
 . refine⟨PH.one g (.cells cur e (0,0)),⟨ho.1,.inr ⟨g,cap,cur,rfl,rfl,hc⟩⟩,hS.change hg.size hg.os hg.tape hg.output keep (λb o hb=>?_) (λb hb hlt=>?_)⟩
   . obtain⟨rfl,rfl⟩:=PH.one_some hb
     exact hh
   . unfold PH.one
     rw[jAa];rintro rfl;simp only[Value.ownBlock,jEa] at hv;rcases hv with h1|h1
     . exact hblk b hb hlt h1
     . omega
end
section
variable{P:Program} {o:Oper} {a:Act} {w E:World} {K:Act->World->Prop} {Q:Exit->Act->World->Prop} {I:PH} {ms:List PH}
theorem wp_apP(hS:Sat E I ms w)(k:Nat){m p:PH}(hm:ms[k]?=some m)(hp:Src I ms p){s x:Operand}{t:TypeId}(ho:o.op=.call { callee:=.builtin .append,args := #[s,x],argTypes := #[t,t] })
  {e:TypeId}{z:Value}{size bytes:Nat}(ht:P.underlying t=some (.slice e))(hi:(P.info? e).map (λi=>(i.zero,i.size,i.bytes))=some (some z,size,bytes))(hzs:z.cells.size=size)(hsz:0<size)
  {v:Value}{n:Nat}{xs:List Value}(hs:a.eval s=v)(hown:OwnP m e size v n xs)
  {X off r c:Nat}{news:List Value}(hx:a.eval x=.slice (some ⟨X,off,none⟩) r c)(hl:news.length=r*size)(hnews:Cells p X off news)(h1:news.all (·.oneCell')=true)
  (h63:n+r<=maxLen)(hbytes:(n+r)*bytes<=140737488355328)
  (h:∀v' m' w',OwnP m' e size v' (n+r) (xs++news)->Sat E I (ms.set k m') w'->K (a.put o.dst v') w'):o.wp P a w K Q:=by
 obtain⟨i,hi1,hz1,hs1,hy1⟩:=info_parts hi;have h0:=hS.perm (Kd k hm);refine wp_append_Own w s x t ho 0 e i z size bytes ht hi1 hz1 hs1 hy1 hzs hsz v n xs hs (hown.own (h0.own _ (.head _))) ⟨X,off,none⟩ r c news hx hl (λj u hu=>?_) (by simpa using h1) h63 hbytes (jC _) λv' w' h2 h3 h4=>?_
 . have:=Ql (hS.src hp) (hnews j u hu)
   rwa [show (⟨X,off,none⟩:Addr).add j=⟨X,off+j,none⟩ by unfold Addr.add;split <;> simp_all]
 . obtain⟨m',ho',hS'⟩:=hown.of_own h0 h2 h3 h4
   exact h v' m' w' ho' (hS'.perm (Kl k hm))
theorem apP{ops:Array Oper}{rest:List Oper}(k:Nat){m p:PH}(hp:Src I ms p)(hS:Sat E I ms w)(hg:o.guard=none)(hm:ms[k]?=some m){s x:Operand}{t:TypeId}(ho:o.op=.call { callee:=.builtin .append,args := #[s,x],argTypes := #[t,t] })
  {e:TypeId}{z:Value}{size bytes:Nat}(ht:P.underlying t=some (.slice e))(hi:(P.info? e).map (λi=>(i.zero,i.size,i.bytes))=some (some z,size,bytes))(hzs:z.cells.size=size)(hsz:0<size)
  {v:Value}{n:Nat}{xs:List Value}(hs:a.eval s=v)(hown:OwnP m e size v n xs)
  {X off r c:Nat}{news:List Value}(hx:a.eval x=.slice (some ⟨X,off,none⟩) r c)(hl:news.length=r*size)(hnews:Cells p X off news)(h1:news.all (·.oneCell')=true)
  (h63:n+r<=maxLen)(hbytes:(n+r)*bytes<=140737488355328)
  (h:∀v' m' w',OwnP m' e size v' (n+r) (xs++news)->Sat E I (ms.set k m') w'->wpList P ops Q rest (a.put o.dst v') w'):wpList P ops Q (o::rest) a w :=
 wpList_plain hg λ_ hK=>wp_apP hS k hm hp ho ht hi hzs hsz hs hown hx hl hnews h1 h63 hbytes λv' m' w' h2 h3=>hK _ _ (h v' m' w' h2 h3)
theorem run_append_of_nil'{w:World}{base:Nat}(t ty e:TypeId)(i:TypeInfo)(size:Nat)(ht:P.underlying t=some (.slice e))(hi:P.info? e=some i)
  (v:Value)(n:Nat)(xs:List Value)(hown:Own w base e size v n xs)(c:Nat):(Builtin.append_ #[t,t] ty #[v,.slice none 0 c]).run P w=.ok v w:=by
 rcases hown.2 with⟨rfl,rfl⟩|⟨g,cap,cur,rfl,_,_,hnc,_⟩
 . simp[Builtin.append_,run_underlying ht,sizeOf,typeInfo,hi,Builtin.lenOf,Builtin.firstCells]
 . simp[Builtin.append_,run_underlying ht,sizeOf,typeInfo,hi,Builtin.lenOf,Builtin.firstCells,hnc,storeCells]
theorem wp_apS(hS:Sat E I ms w)(k:Nat){m p:PH}(hm:ms[k]?=some m)(hp:Src I ms p){s x:Operand}{t:TypeId}(ho:o.op=.call { callee:=.builtin .append,args := #[s,x],argTypes := #[t,t] })
  {e:TypeId}{z:Value}{size bytes:Nat}(ht:P.underlying t=some (.slice e))(hi:(P.info? e).map (λi=>(i.zero,i.size,i.bytes))=some (some z,size,bytes))(hzs:z.cells.size=size)(hsz:0<size)
  {v:Value}{n:Nat}{xs:List Value}(hs:a.eval s=v)(hown:OwnP m e size v n xs)
  {A:Option Addr}{r c:Nat}{news:List Value}(hx:a.eval x=.slice A r c)(hl:news.length=r*size)(hnews:0<r->∃X off,A=some ⟨X,off,none⟩/\Cells p X off news)(h1:∀u∈news,u.oneCell'=true)
  (h63:n+r<=maxLen)(hbytes:(n+r)*bytes<=140737488355328)
  (h:∀v' m' w',OwnP m' e size v' (n+r) (xs++news)->Sat E I (ms.set k m') w'->K (a.put o.dst v') w'):o.wp P a w K Q:=by
 obtain⟨i,hi1,hz1,hs1,hy1⟩:=info_parts hi;have h0:=hS.perm (Kd k hm);have hO:=hown.own (h0.own _ (.head _));cases A with
 | none =>
   have hr:r=0:=by
    rcases kQb r with h2|h2
    . exact h2
    . obtain⟨_,_,h3,_⟩:=hnews h2
      cases h3
   subst hr;have hn:news=[]:=jQb (by simpa using hl);subst hn;unfold Oper.wp execOp;simp only[ho,resolve,invoke,builtin,Sem.run_bind,Sem.run_pure,Result.andThen_ok,kTb,jDb,jZ,hs,hx,run_append_of_nil' t o.type e i size ht hi1 v n xs hO c];exact h v m w (by simpa using hown) (h0.perm (Kl k hm))
 | some ad =>
   refine wp_append_Own w s x t ho 0 e i z size bytes ht hi1 hz1 hs1 hy1 hzs hsz v n xs hs hO ad r c news hx hl (λj u hu=>?_) h1 h63 hbytes (jC _) λv' w' h2 h3 h4=>?_
   . have hr:0<r:=by
       have:=(yE.1 hu).1;rw[hl] at this;rcases kQb r with h2|h2
       . subst h2;omega
       . exact h2
     obtain⟨X,off,hA,hc⟩:=hnews hr;injection hA with hA
     subst hA
     have:=Ql (hS.src hp) (hc j u hu)
     rwa [show (⟨X,off,none⟩:Addr).add j=⟨X,off+j,none⟩ by unfold Addr.add;split <;> simp_all]
   . obtain⟨m',ho',hS'⟩:=hown.of_own h0 h2 h3 h4
     exact h v' m' w' ho' (hS'.perm (Kl k hm))
theorem apS{ops:Array Oper}{rest:List Oper}(k:Nat){m p:PH}(hp:Src I ms p)(hS:Sat E I ms w)(hg:o.guard=none)(hm:ms[k]?=some m){s x:Operand}{t:TypeId}(ho:o.op=.call { callee:=.builtin .append,args := #[s,x],argTypes := #[t,t] })
  {e:TypeId}{z:Value}{size bytes:Nat}(ht:P.underlying t=some (.slice e))(hi:(P.info? e).map (λi=>(i.zero,i.size,i.bytes))=some (some z,size,bytes))(hzs:z.cells.size=size)(hsz:0<size)
  {v:Value}{n:Nat}{xs:List Value}(hs:a.eval s=v)(hown:OwnP m e size v n xs)
  {A:Option Addr}{r c:Nat}{news:List Value}(hx:a.eval x=.slice A r c)(hl:news.length=r*size)(hnews:0<r->∃X off,A=some ⟨X,off,none⟩/\Cells p X off news)(h1:∀u∈news,u.oneCell'=true)
  (h63:n+r<=maxLen)(hbytes:(n+r)*bytes<=140737488355328)
  (h:∀v' m' w',OwnP m' e size v' (n+r) (xs++news)->Sat E I (ms.set k m') w'->wpList P ops Q rest (a.put o.dst v') w'):wpList P ops Q (o::rest) a w :=
 wpList_plain hg λ_ hK=>wp_apS hS k hm hp ho ht hi hzs hsz hs hown hx hl hnews h1 h63 hbytes λv' m' w' h2 h3=>hK _ _ (h v' m' w' h2 h3)
end
end
section
open Go.RowKit
def chainOk(A:List (List Nat))(bxs:List Bx)(c:List Nat)(n:Nat):Bool :=
 ((List.range c.length).all λt=>decide (c.getD t 0<n)&&((List.range c.length).all λu=>t==u||(c.getD t 0 != c.getD u 0))&&(t==0||(A.getD (c.getD t 0) []).contains (c.getD (t-1) 0)))&&bxs.all λb=>!c.contains b.i && !c.contains b.s
theorem wp_as{P:Program}{a:Act}{w:World}{K:Act->World->Prop}{Q:Exit->Act->World->Prop}{dst:Option Tmp}{type:TypeId}{pos:String}{after:Array Edge}{g:Option (Nat×Bool)}{x:Operand}
  (h:K (a.put dst (a.eval x)) w):Oper.wp P ⟨dst,.assign x,type,pos,after,g⟩ a w K Q:=by
 unfold Oper.wp execOp;simp only[Sem.run_pure];exact h
end
section
open Go.ChangeShapes Go.WideShapes Go.ChangeAt Go.RowKit
section
variable{E W W':World} {I J:PH} {ms ns:List PH}
theorem Sat.turn{B:Nat}{row:Option Nat}(hS:Sat E I ms W)(hg:W.grownBy W' row)(hr:∀r,row=some r->B<=r/\∃o:Obj,W.heap[r]?=some o/\o.isCells=false)
  (hI:∀b o,I b=some o->b<B\/o.isCells=true)(hm:∀m∈ms,∀b o,m b=some o->b<B\/o.isCells=true):Sat E I ms W':=by
 have key:∀b o,W.heap[b]?=some o->(b<B\/o.isCells=true)->W'.heap[b]?=some o:=λb o hb h=>by
  rw[hg.block b (jDa.1 hb).1,hb];rintro e;obtain⟨h1,o',h2,h3⟩:=hr b e.symm;rw[hb] at h2;cases h2;rcases h with h|h
  . omega
  . rw[h3] at h;cases h
 exact⟨hg.os.trans hS.os,hg.tape.trans hS.tape,hg.output.trans hS.output,λb o hb=>key b o (hS.imm b o hb) (hI b o hb),λm hm' b o hb=>key b o (hS.own m hm' b o hb) (hm m hm' b o hb),hS.sep,hS.dis,jFb hS.size hg.size⟩
theorem Sat.full(hS:Sat E I ms W):∃I':PH,I.le I'/\Sat W I' ms W/\∀b,(∀m∈ms,m b=none)->I' b=W.heap[b]?:=by
 classical
 refine⟨λb=>if ∃m∈ms,m b≠none then none else W.heap[b]?,λb o hb=>?_,⟨rfl,rfl,rfl,λb o hb=>?_,hS.own,λm hm b=>?_,hS.dis,jBb _⟩,λb hb=>?_⟩
 . show (if _ then none else _)=_
   rw[jAa,hS.imm b o hb];rintro⟨m,hm,hne⟩;rcases hS.sep m hm b with h|h
   . exact hne h
   . rw[hb] at h;cases h
 . split at hb
   . cases hb
   . exact hb
 . cases hmb:m b with
   | none=>exact .inl rfl
   | some o=>exact .inr (jAb ⟨m,hm,by rw[hmb];simp⟩)
 . show (if _ then none else _)=_
   rw[jAa];rintro⟨m,hm,hne⟩;exact hne (hb m hm)
theorem Sat.find(hS:Sat E I ms W)(hI:∀b,(∀m∈ms,m b=none)->I b=W.heap[b]?)(b:Nat):∃p,Src I ms p/\∀o,W.heap[b]?=some o->p b=some o:=by
 classical
 by_cases h:∀m∈ms,m b=none
 . exact⟨I,.inl (PH.le.refl I),λo ho=>by rw[hI b h];exact ho⟩
 . obtain⟨m,hm⟩:=Classical.not_forall.1 h
   obtain⟨hm,hne⟩:=Classical.not_imp.1 hm;refine⟨m,.inr hm,λo ho=>?_⟩;cases hmb:m b with
   | none=>exact absurd hmb hne
   | some u=>rw[<- ho,<- hS.own m hm b u hmb]
theorem Sat.keeps{S:Nat->Prop}(hI:∀b,(∀m∈ms,m b=none)->I b=W.heap[b]?)(hS:∀b,S b->b<W.heap.size)(hm:∀m∈ms,∀b,S b->m b=none)(hJ:I.le J)(h:Sat W J ns W') :
  Keeps S W W'/\∀m∈ns,∀b,S b->m b=none:=by
 have key:∀b,S b->∃o,W.heap[b]?=some o/\J b=some o:=λb hb=>by
  have h1:=jUb (hS b hb);refine⟨_,h1,hJ b _ ?_⟩;rw[hI b λm hm'=>hm m hm' b hb,h1]
 refine⟨⟨h.size,λb hb=>?_⟩,λm hm' b hb=>?_⟩
 . obtain⟨o,h1,h2⟩:=key b hb
   rw[h1,h.imm b o h2]
 . obtain⟨o,_,h2⟩:=key b hb
   rcases h.sep m hm' b with h3|h3
   . exact h3
   . rw[h2] at h3;cases h3
theorem PH.at_of_cell{p:PH}{X off:Nat}{v:Value}(hp:∀o,W.heap[X]?=some o->p X=some o)(hc:W.cell? ⟨X,off,none⟩=some v):p.at X off=some v:=by
 unfold World.cell? at hc;unfold PH.at
 cases hw:W.heap[X]? with
 | none=>rw[hw] at hc;cases hc
 | some o =>
   rw[hp o hw];rw[hw] at hc;cases o <;> first|(cases hc)|(simpa using hc)
theorem OwnP.isCells{m:PH}{e:TypeId}{size n:Nat}{v:Value}{xs:List Value}(h:OwnP m e size v n xs):∀b o,m b=some o->o.isCells=true:=λb o hb=>by
 rcases h.2 with⟨_,_,rfl⟩|⟨g,cap,cur,_,rfl,_⟩
 . cases hb
 . obtain⟨_,rfl⟩:=PH.one_some hb
   rfl
theorem PH.one_isCells{X:Nat}{c:Array Value}{T:TypeId}{z:Nat×Nat}:∀b o,PH.one X (.cells c T z) b=some o->o.isCells=true:=λb o hb=>by
 obtain⟨_,rfl⟩:=PH.one_some hb;rfl
end
structure Veil (p:Prop):Prop where
 out:p
theorem wp_bsl{P:Program}{a:Act}{w E:World}{K:Act->World->Prop}{Q:Exit->Act->World->Prop}{I:PH}{ms:List PH}{dst:Option Tmp}{type:TypeId}{pos:String}{after:Array Edge}{g:Option (Nat×Bool)}{T:TypeId}{n:Nat}{parts:Array (Nat×Operand)}
  (hS:Sat E I ms w){cs:Array Value}{e:TypeId}(hr:∀w:World,(Instr.buildSlice T n (parts.map λ(i,x)=>(i,a.eval x))).run P w=.ok (.slice (some ⟨w.heap.size,0,none⟩) n n) (w.alloc (.cells cs e)))
  (h:∀X w',Sat E I (PH.one X (.cells cs e)::ms) w'->K (a.put dst (.slice (some ⟨X,0,none⟩) n n)) w'):Oper.wp P ⟨dst,.buildSlice T n parts,type,pos,after,g⟩ a w K Q:=by
 unfold Oper.wp execOp;simp only[Sem.run_bind,hr,Result.andThen_ok,Sem.run_pure];exact h _ _ (hS.alloc _)
theorem rowsIn_round{n l:Nat}{P:Program}{r:String}{args:Array Value}{w:World}{R:Value->World->Prop}(h:Rows P r args w R):RowsIn (Fence.wide.inRound l) n P r args w R:=λc cs _ =>
 let ⟨v,w',hr,s⟩:=h c cs;⟨v,w',hr,stepsIn_wide.2 s⟩
theorem callsIn_round{n l:Nat}{P:Program}{f:FuncId}{args:Array Value}{w:World}{R:Ending->World->Prop}(h:Calls P f args w R):CallsIn (Fence.wide.inRound l) n P f args w R:=CallsIn.inRound _ (callsIn_wide.2 h)
end
section
open Go.RowKit
def RV(P:Program)(w:World)(tmps:Array Value):ResultVar->Value->Prop
 | .tmp t,v=>tmps.getD t undef=v
 | .cell p T,v=>∃X,tmps.getD p undef=.pointer (some ⟨X,0,none⟩)/\(loadVar T ⟨X,0,none⟩).run P w=.ok v w
section
variable{P:Program} {fn:Func} {tmps:Array Value} {w E:World} {I:PH} {ms:List PH}
theorem rvt{t:Tmp}{v:Value}(h:tmps.getD t undef=v):RV P w tmps (.tmp t) v:=h
theorem rvN(k:Nat)(hS:Sat E I ms w){p:Tmp}{T:TypeId}{X:Nat}{c:Array Value}{T':TypeId}{z:Nat×Nat}(hp:tmps.getD p undef=.pointer (some ⟨X,0,none⟩))(hm:ms[k]?=some (PH.one X (.cells c T' z)))
  (ha:Ky P T=some true)(hs:Kg P T=some c.size):RV P w tmps (.cell p T) (.agg c):=by
 have h1:=run_loadN (P:=P) (hS.mle hm) ha (Cells.one X c T' z) (by rw[hs];simp);simp only[Instr.loadAt,Instr.sureAddr,Sem.run_bind,Sem.run_pure,Result.andThen_ok] at h1;exact⟨X,hp,h1⟩
def rvSem(tmps:Array Value):ResultVar->Sem Value
 | .tmp t=>pure (tmps.getD t undef)
 | .cell a t=>do loadVar t (<- asAddr (tmps.getD a undef))
theorem rv_run{r:ResultVar}{v:Value}(h:RV P w tmps r v):(rvSem tmps r).run P w=.ok v w:=by
 cases r with
 | tmp t=>simp only[rvSem,Sem.run_pure];rw[show tmps.getD t undef=v from h]
 | cell p T =>
   obtain⟨X,hp,hl⟩:=h;simp only[rvSem,hp,asAddr];simp[hl]
theorem results_sem(fn:Func)(tmps:Array Value):results fn tmps=(do let vs <- fn.results.mapM (rvSem tmps);pure (if h:vs.size=1 then vs[0] else .tuple vs)):=by
 unfold results;refine jNa (λf:ResultVar->Sem Value=>(do let vs <- fn.results.mapM f;pure (if h:vs.size=1 then vs[0] else .tuple vs))) (funext λr=>?_);cases r <;> rfl
theorem res2{r1 r2:ResultVar}{v1 v2:Value}(h:fn.results = #[r1,r2])(h1:RV P w tmps r1 v1)(h2:RV P w tmps r2 v2):(results fn tmps).run P w=.ok (.tuple #[v1,v2]) w:=by
 have e1:=rv_run h1;have e2:=rv_run h2;simp[results_sem,h,e1,e2]
theorem res4{r1 r2 r3 r4:ResultVar}{v1 v2 v3 v4:Value}(h:fn.results = #[r1,r2,r3,r4])(h1:RV P w tmps r1 v1)(h2:RV P w tmps r2 v2)(h3:RV P w tmps r3 v3)(h4:RV P w tmps r4 v4):(results fn tmps).run P w=.ok (.tuple #[v1,v2,v3,v4]) w:=by
 have e1:=rv_run h1;have e2:=rv_run h2;have e3:=rv_run h3;have e4:=rv_run h4;simp[results_sem,h,e1,e2,e3,e4]
end
end
section
open Go.RowKit
section
variable{α:Type} {f:α->List Value} {k:Nat}
def RowG(J:PH)(f:α->List Value)(v:Value)(xs:List α):Prop:=∃A c,v=.slice A xs.length c/\xs.length<=c/\c<=maxLen/\(0<xs.length->∃X off,A=some ⟨X,off,none⟩/\Cells J X off (xs.flatMap f))
theorem RowG.le{I J:PH}{v:Value}{xs:List α}(h:RowG I f v xs)(hJ:I.le J):RowG J f v xs:=by
 obtain⟨A,c,h1,h2,h3,h4⟩:=h;exact⟨A,c,h1,h2,h3,λh=>by obtain⟨X,off,e,hc⟩:=h4 h;exact⟨X,off,e,hc.le hJ⟩⟩
theorem RowG.nil(J:PH)(f:α->List Value):RowG J f (.slice none 0 0) []:=⟨none,0,rfl,jBb _,jC _,λh=>by simp at h⟩
theorem flatK(hk:∀x,(f x).length=k):∀(xs:List α) (i:Nat) (x:α),xs[i]?=some x->∀j v,(f x)[j]?=some v->(xs.flatMap f)[i*k+j]?=some v
 | [],_,_,h,_,_,_=>by simp at h
 | x::xs,0,n,h,j,v,hj=>by
   simp at h;subst h
   rw[jMb,kWa,jLb,jHa (yE.1 hj).1];exact hj
 | x::xs,i+1,n,h,j,v,hj=>by
   rw[jMb,jOa (by rw[hk,kPb];omega),hk,show (i+1)*k+j-k=i*k+j by rw[kPb];omega];exact flatK hk xs i n (by simpa using h) j v hj
theorem flat_len(hk:∀x,(f x).length=k):∀xs:List α,(xs.flatMap f).length=xs.length*k
 | []=>by simp
 | x::xs=>by rw[jMb,yG,flat_len hk xs,hk,yB,kPb];omega
theorem RowG.at_(hk:∀x,(f x).length=k){J:PH}{A:Option Addr}{xs:List α}{n c:Nat}(h:RowG J f (.slice A n c) xs){i:Nat}{x:α}(hi:xs[i]?=some x):∃X off,A=some ⟨X,off,none⟩/\Cells J X (off+i*k) (f x):=by
 obtain⟨A',c',e,_,_,h4⟩:=h;injection e with e1
 subst e1;have hlt:=(yE.1 hi).1;obtain⟨X,off,rfl,hc⟩:=h4 (by omega);refine⟨X,off,rfl,λj v hj=>?_⟩;rw[kYb];exact hc _ _ (flatK hk xs i x hi j v hj)
theorem drop_flat(hk:∀x,(f x).length=k)(xs:List α)(i:Nat)(hi:i<=xs.length):(xs.flatMap f).drop (i*k)=(xs.drop i).flatMap f:=by
 have hl:((xs.take i).flatMap f).length=i*k:=by rw[flat_len hk,jSa,kCa hi]
 conv=>lhs;rw[<- kGa i xs]
 rw[jNb,List.drop_append_of_le_length (by omega),kAb (by omega),List.nil_append]
theorem take_flat(hk:∀x,(f x).length=k)(xs:List α)(i:Nat)(hi:i<=xs.length):(xs.flatMap f).take (i*k)=(xs.take i).flatMap f:=by
 have hl:((xs.take i).flatMap f).length=i*k:=by rw[flat_len hk,jSa,kCa hi]
 conv=>lhs;rw[<- kGa i xs]
 rw[jNb,kGb (by omega),jK (by omega)]
theorem RowG.slice(hk:∀x,(f x).length=k){J:PH}{A:Option Addr}{xs:List α}{m c:Nat}(h:RowG J f (.slice A m c) xs){i n:Nat}(hn:i+n<=xs.length)(h0:0<n):∃X off,A=some ⟨X,off,none⟩/\Cells J X (off+i*k) (((xs.drop i).take n).flatMap f):=by
 obtain⟨A',c',e,_,_,h4⟩:=h;injection e with e1
 subst e1;obtain⟨X,off,rfl,hc⟩:=h4 (by omega);refine⟨X,off,rfl,λj v hj=>?_⟩;refine hc.part (i*k) (n*k) j v ?_;rw[drop_flat hk xs i (by omega),take_flat hk _ n (by rw[kHb];omega)];exact hj
end
end
section
open Go.RowKit
def stopAt(A:List (List Nat))(c:List Nat)(k:Nat):Nat:=c.findIdx λi=>(A.getD i []).contains k
theorem stopAt_mem{A:List (List Nat)}{c:List Nat}{k:Nat}(h:stopAt A c k<c.length):k∈A.getD (c.getD (stopAt A c k) 0) []:=by
 have:=kXa (w:=h);unfold stopAt at h ⊢;rw[show c.getD (c.findIdx λi=>(A.getD i []).contains k) 0=c[c.findIdx λi=>(A.getD i []).contains k] by rw[yD,yA h];rfl]
 simpa using this
theorem Qf{P:Program}{id:Nat}{ops:List Oper}{Q:Exit->Act->World->Prop}{a:Act}{w:World}(A:List (List Nat))(E:World)(I:PH)(ms:List PH)(Ds:List Fct)
  (c:List Nat)(G:Nat->(Nat->Value)->PH->List PH->Prop)
  (hm:P.follows .mixedOrders=true)(chk:ogOk ops A a.tmps.size=true)(hc:chainOk A [] c ops.length=true)
  (hS:Sat E I ms w)(hG:G 0 (λ_=>undef) I ms)(lasting:Lasting Ds)
  (gst:∀s vals vals' J ns,(∀j∈c.take s,vals j=vals' j)->G s vals J ns->G s vals' J ns)(gle:∀s vals J J' ns,PH.le J J'->G s vals J ns->G s vals J' ns)
  (plain:Below_ (λk=>c.contains k=true\/∀(s:Nat) (vals:Nat->Value) (J:PH) (bs:List PH) (w':World),s<=stopAt A c k->Given (λj=>Facts Ds j (vals j) J) (A.getD k [])->I.le J->Sat E J bs w'->G s vals J bs ->
    Veil0 (Ze P ops (Qd ops k) (λa' w''=>a'.defers=a.defers/\∃J':PH,J.le J'/\Sat E J' bs w''/\Facts Ds k (Qk (Qd ops k) a') J') (Qc ops vals a k) w')) ops.length)
  (step:Below_ (λs=>∀(vals:Nat->Value) (J:PH) (bs:List PH) (w':World),Given (λj=>Facts Ds j (vals j) J) (A.getD (c.getD s 0) [])->I.le J->Sat E J bs w'->G s vals J bs ->
    Veil0 (Ze P ops (Qd ops (c.getD s 0)) (λa' w''=>a'.defers=a.defers/\∃(J':PH) (ns':List PH),J.le J'/\Sat E J' ns' w''/\Facts Ds (c.getD s 0) (Qk (Qd ops (c.getD s 0)) a') J'/\G (s+1) (upd vals (c.getD s 0) (Qk (Qd ops (c.getD s 0)) a')) J' ns') (Qc ops vals a (c.getD s 0)) w')) c.length)
  (fin:∀(vals:Nat->Value) (J:PH) (bs:List PH) (w':World),I.le J->Below_ (λj=>Facts Ds j (vals j) J) ops.length->Sat E J bs w'->G c.length vals J bs->Veil0 (Q .normal (Qc ops vals a ops.length) w')) :
  (Code.region id ops.toArray true).wp P Q a w:=by
 unfold chainOk at hc;rw[jI] at hc;obtain⟨hc1,_⟩:=hc;have hc1':∀t,t<c.length->c.getD t 0<ops.length/\(∀u,u<c.length->t≠u->c.getD t 0≠c.getD u 0)/\(t≠0->c.getD (t-1) 0∈A.getD (c.getD t 0) []):=λt ht=>by
  have:=jTb.1 hc1 t (jVb.2 ht);simp only[jI,jPa,kFa,jRb] at this;refine⟨this.1.1,λu hu hne=>?_,λh0=>?_⟩
  . have h2:=jTb.1 this.1.2 u (jVb.2 hu)
    simp only[kFa,jRb,bne_iff_ne] at h2;rcases h2 with h2|h2
    . exact absurd h2 hne
    . exact h2
  . rcases this.2 with h2|h2
    . exact absurd h2 h0
    . simpa using h2
 have cmem:∀t,t<c.length->c.getD t 0∈c:=λt ht=>by
  rw[yD,yA ht];exact jWb ht
 have notc:∀k,k∉c->∀t,t<c.length->c.getD t 0≠k:=λk hk t ht e=>hk (e ▸ cmem t ht)
 refine region_og A E I [] ms (Facts Ds) (λL vals J ns=>∃s,s<=c.length/\(∀t,t<c.length->(L (c.getD t 0)=true↔t<s))/\G s vals J ns) hm chk (by simpa using hS) ⟨0,jC _,λt ht=>by simp,hG⟩ (λi v I J hJ=>Facts.lasting lasting i v I J hJ) ?_ ?_
 . intro k hk L vals J ns w' hLk hdown hanc hJ hs ⟨s,h1,h2,h3⟩
   by_cases hkc:k∈c
   . obtain⟨t,ht,rfl⟩:=kXb.1 hkc
     have eg:c[t]=c.getD t 0:=by rw[yD,yA ht];rfl
     rw[eg] at hLk hanc ⊢;have hst:s=t:=by
      have a1:¬t<s:=λh=>by rw[(h2 t ht).2 h] at hLk;cases hLk
      by_cases h0:t=0
      . omega
      . have a2:=(h2 (t-1) (by omega)).1 (hanc _ ((hc1' t ht).2.2 h0)).1
        omega
     subst hst;refine Xg (step.get s ht vals J ns w' (Given.of λj hj=>(hanc j hj).2) hJ (by simpa using hs) h3).out λa' w'' hpost=>?_
     obtain⟨p1,J',ns',p2,p3,p4,p5⟩:=hpost;refine⟨p1,J',ns',p2,by simpa using p3,p4,s+1,ht,λu hu=>?_,p5⟩;by_cases hus:u=s
     . subst hus;rw[Qq];simp
     . rw[Qw _ _ ((hc1' u hu).2.1 s ht hus),h2 u hu]
       omega
   . rcases plain.get k hk with h|h
     . exact absurd (by simpa using h) hkc
     . have hst:s<=stopAt A c k:=by
         rcases jYb (stopAt A c k) s with hlt|hge
         . exfalso
           have hlc:stopAt A c k<c.length:=by omega
           have:=hdown _ (hc1' _ hlc).1 ((h2 _ hlc).2 hlt) k (stopAt_mem hlc);rw[hLk] at this;cases this
         . exact hge
       refine Xg (h s vals J ns w' hst (Given.of λj hj=>(hanc j hj).2) hJ (by simpa using hs) h3).out λa' w'' hpost=>?_
       obtain⟨p1,J',p2,p3,p4⟩:=hpost;refine⟨p1,J',ns,p2,by simpa using p3,p4,s,h1,λt ht=>by rw[Qw _ _ (notc k hkc t ht)];exact h2 t ht,gst s vals _ J' ns (λj hj=>?_) (gle s vals J J' ns p2 h3)⟩;rw[Qw];rintro rfl;exact hkc (kY hj)
 . intro vals J ns w' hJ hD hs ⟨L,hL,s,h1,h2,h3⟩
   have hsl:s=c.length:=by
    rcases jYb s c.length with hlt|hge
    . have:=(h2 s hlt).1 (hL _ (hc1' s hlt).1)
      omega
    . omega
   subst hsl;have hB2:Below_ (λj=>Facts Ds j (vals j) J) ops.length:=by
    have:∀n,n<=ops.length->Below_ (λj=>Facts Ds j (vals j) J) n:=λn=>by
     induction n with
     | zero=>exact λ_=>trivial
     | succ n ih=>exact λhn=>⟨ih (by omega),hD n (by omega)⟩
    exact this _ (jBb _)
   exact (fin vals J ns w' hJ hB2 (by simpa using hs) h3).out
section
variable{P:Program} {o:Oper} {a:Act} {w E:World} {K:Act->World->Prop} {Q:Exit->Act->World->Prop} {I:PH} {ms:List PH} {ops:Array Oper} {rest:List Oper}
theorem wp_mks(hS:Sat E I ms w){t e:TypeId}{l c:Operand}(ho:o.op=.makeSlice t l c)(ht:P.underlying t=some (.slice e)){z:Value}{size bytes:Nat}(hi:(P.info? e).map (λi=>(i.zero,i.size,i.bytes))=some (some z,size,bytes))
  {kl kc:IntKind}{L C:Int}{n m:Nat}(hl:a.eval l=.int kl L)(hc:a.eval c=.int kc C)(hL:L=(n:Int))(hC:C=(m:Int))(hnm:n<=m)(hb:bytes*m<=281474976710656)(h63:m<=9223372036854775807)
  (h:∀X w',Sat E I (PH.one X (.cells (madeCells z.cells (m*size)) e)::ms) w'->K (a.put o.dst (.slice (some ⟨X,0,none⟩) n m)) w'):o.wp P a w K Q:=by
 subst hL hC;obtain⟨i,hi1,hz1,hs1,hy1⟩:=info_parts hi;have hb':(i.bytes:Int)*(m:Int)<=281474976710656:=by
  rw[hy1,<- Int.natCast_mul];omega
 have hr:=run_make (P:=P) w t e i z ht hi1 hz1 kl kc n m (by omega) (by omega) hb' (by omega);rw[hs1] at hr;simp only[Int.toNat_natCast] at hr;unfold Oper.wp execOp;simp only[ho,hl,hc,Sem.run_bind,hr,Result.andThen_ok,Sem.run_pure];exact h _ _ (hS.alloc _)
theorem mks(hS:Sat E I ms w)(hg:o.guard=none){t e:TypeId}{l c:Operand}(ho:o.op=.makeSlice t l c)(ht:P.underlying t=some (.slice e)){z:Value}{size bytes:Nat}(hi:(P.info? e).map (λi=>(i.zero,i.size,i.bytes))=some (some z,size,bytes))
  {kl kc:IntKind}{L C:Int}{n m:Nat}(hl:a.eval l=.int kl L)(hc:a.eval c=.int kc C)(hL:L=(n:Int))(hC:C=(m:Int))(hnm:n<=m)(hb:bytes*m<=281474976710656)(h63:m<=9223372036854775807)
  (h:∀X w',Sat E I (PH.one X (.cells (madeCells z.cells (m*size)) e)::ms) w'->wpList P ops Q rest (a.put o.dst (.slice (some ⟨X,0,none⟩) n m)) w'):wpList P ops Q (o::rest) a w :=
 wpList_plain hg λ_ hK=>wp_mks hS ho ht hi hl hc hL hC hnm hb h63 λX w' h'=>hK _ _ (h X w' h')
end
theorem isMake{P:Program}{a:Act}{w:World}{Q:Exit->Act->World->Prop}{ops:Array Oper}{rest:List Oper}{dst:Option Tmp}{type:TypeId}{pos:String}{after:Array Edge}{T:TypeId}{x y:Operand}(h:wpList P ops Q (⟨dst,.makeSlice T x y,type,pos,after,none⟩::rest) a w):wpList P ops Q (⟨dst,.makeSlice T x y,type,pos,after,none⟩::rest) a w:=h
end
end Go.Proofs.YtidamcdklgfogaaGreat
