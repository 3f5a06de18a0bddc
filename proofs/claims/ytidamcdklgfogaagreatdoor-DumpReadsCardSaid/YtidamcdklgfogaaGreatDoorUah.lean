import Derived.Test.YtidamcdklgfogaaGreatDoorUag
import Derived.Laws.MakeOwn
import Derived.Test.YtidamcdklgfogaaGreatDoorUad
import Derived.Lib.AppendStr
import Derived.Lib.UnsafeStr
import Derived.Test.YtidamcdklgfogaaGreatDoorUac
import Derived.Lib.Builder
import Derived.Test.YtidamcdklgfogaaGreatDoorShelf
import Derived.Lib.IndexLaws
import Derived.Lib.IndexBytes
set_option linter.unusedVariables false
set_option linter.unusedSimpArgs false
set_option maxRecDepth 100000
set_option maxHeartbeats 4000000
namespace Go.Proofs.YtidamcdklgfogaaGreatDoor
section
open Go.RowKit
def OwnP (m:PH) (e:TypeId) (size:Nat) (v:Value) (n:Nat) (xs:List Value):Prop :=
 xs.length=n * size/\((v=.slice none 0 0/\n=0/\m=fun _=>none) \/
  ∃ g cap cur,v=.slice (some ⟨g,0,none⟩) n cap/\m=PH.one g (.cells cur e (0,0))/\n<=cap/\cap<=maxLen/\cap * size<=cur.size/\cur.toList.take (n * size)=xs)
section
variable {E w w':World} {I m:PH} {ms:List PH} {e:TypeId} {size n:Nat} {v:Value} {xs:List Value}
theorem OwnP.nil (e:TypeId) (size:Nat):OwnP (fun _=>none) e size (.slice none 0 0) 0 []:=⟨by simp,.inl ⟨rfl,rfl,rfl⟩⟩
theorem OwnP.lit (g:Nat) (e:TypeId) (size n:Nat) (cs:Array Value) (hn:n<=maxLen) (hc:cs.size=n * size):OwnP (PH.one g (.cells cs e)) e size (.slice (some ⟨g,0,none⟩) n n) n cs.toList :=
 ⟨by simpa using hc,.inr ⟨g,n,cs,rfl,rfl,jBb _,hn,by omega,by rw [jFa (by simp;omega)]⟩⟩
theorem OwnP.own (h:OwnP m e size v n xs) (hm:m.le (Qa w)):Own w 0 e size v n xs:=by
 refine ⟨h.1,?_⟩;rcases h.2 with ⟨h1,h2,_⟩|⟨g,cap,cur,rfl,rfl,h3⟩
 . exact .inl ⟨h1,h2⟩
 . exact .inr ⟨g,cap,cur,rfl,jCa _,hm g _ (PH.one_self _ _),h3⟩
theorem OwnP.shape (h:OwnP m e size v n xs):∃ A cap,v=.slice A n cap/\n<=cap:=by
 rcases h.2 with ⟨rfl,rfl,_⟩|⟨g,cap,cur,rfl,_,hc,_⟩
 . exact ⟨none,0,rfl,by omega⟩
 . exact ⟨_,cap,rfl,hc⟩
theorem OwnP.cells {A:Option Addr} {c:Nat} (h:OwnP m e size (.slice A n c) n xs) (hn:0<n):∃ g,A=some ⟨g,0,none⟩/\Cells m g 0 xs:=by
 rcases h.2 with ⟨_,h0,_⟩|⟨g,cap,cur,hv,rfl,_,_,_,ht⟩
 . omega
 . injection hv with hA
   subst hA;refine ⟨g,rfl,fun j u hj=>?_⟩;refine Cells.one g cur e (0,0) j u ?_;rw [<- ht,kEb] at hj;split at hj
   . exact hj
   . cases hj
theorem OwnP.of_own {E w w':World} {I:PH} (h:OwnP m e size v n xs) (hS:Sat E I (m::ms) w) {v':Value} {n':Nat} {ys:List Value} (ho:Own w' 0 e size v' n' ys) (hg:w.grownBy w' v.ownBlock)
  (hv:v'.ownBlock=v.ownBlock\/v'.ownBlock=some w.heap.size):∃ m',OwnP m' e size v' n' ys/\Sat E I (m'::ms) w':=by
 have hblk:∀ b,m b=none->b<w.heap.size->some b≠v.ownBlock:=fun b hb _ he=>by
  rcases h.2 with ⟨rfl,_⟩|⟨g,cap,cur,rfl,rfl,_⟩
  . cases he
  . simp only [Value.ownBlock,jEb] at he
    subst he;rw [PH.one_self] at hb;cases hb
 have keep:∀ b,b<w.heap.size->m b=none->w'.heap[b]?=w.heap[b]?:=fun b hb h0=>hg.block b hb (hblk b h0 hb)
 rcases ho.2 with ⟨rfl,rfl⟩|⟨g,cap,cur,rfl,_,hh,hc⟩
 . exact ⟨fun _=>none,⟨ho.1,.inl ⟨rfl,rfl,rfl⟩⟩,hS.change hg.size hg.os hg.tape hg.output keep (fun b o hb=>by cases hb) (fun b _ _=>rfl)⟩
 . refine ⟨PH.one g (.cells cur e (0,0)),⟨ho.1,.inr ⟨g,cap,cur,rfl,rfl,hc⟩⟩,hS.change hg.size hg.os hg.tape hg.output keep (fun b o hb=>?_) (fun b hb hlt=>?_)⟩
   . obtain ⟨rfl,rfl⟩:=PH.one_some hb
     exact hh
   . unfold PH.one
     rw [jAb];rintro rfl;simp only [Value.ownBlock,jEb] at hv;rcases hv with h1|h1
     . exact hblk b hb hlt h1
     . omega
end
section
variable {P:Program} {o:Oper} {a:Act} {w E:World} {K:Act->World->Prop} {Q:Exit->Act->World->Prop} {I:PH} {ms:List PH}
theorem wp_apP (hS:Sat E I ms w) (k:Nat) {m p:PH} (hm:ms[k]?=some m) (hp:Src I ms p) {s x:Operand} {t:TypeId} (ho:o.op=.call { callee:=.builtin .append,args := #[s,x],argTypes := #[t,t] })
  {e:TypeId} {z:Value} {size bytes:Nat} (ht:P.underlying t=some (.slice e)) (hi:(P.info? e).map (fun i=>(i.zero,i.size,i.bytes))=some (some z,size,bytes)) (hzs:z.cells.size=size) (hsz:0<size)
  {v:Value} {n:Nat} {xs:List Value} (hs:a.eval s=v) (hown:OwnP m e size v n xs)
  {X off r c:Nat} {news:List Value} (hx:a.eval x=.slice (some ⟨X,off,none⟩) r c) (hl:news.length=r * size) (hnews:Cells p X off news) (h1:news.all (·.oneCell')=true)
  (h63:n+r<=maxLen) (hbytes:(n+r) * bytes<=140737488355328)
  (h:∀ v' m' w',OwnP m' e size v' (n+r) (xs ++ news)->Sat E I (ms.set k m') w'->K (a.put o.dst v') w'):o.wp P a w K Q:=by
 obtain ⟨i,hi1,hz1,hs1,hy1⟩:=info_parts hi;have h0:=hS.perm (Kg k hm);refine wp_append_Own w s x t ho 0 e i z size bytes ht hi1 hz1 hs1 hy1 hzs hsz v n xs hs (hown.own (h0.own _ (.head _))) ⟨X,off,none⟩ r c news hx hl (fun j u hu=>?_) (by simpa using h1) h63 hbytes (jCa _) fun v' w' h2 h3 h4=>?_
 . have:=Qn (hS.src hp) (hnews j u hu)
   rwa [show (⟨X,off,none⟩:Addr).add j=⟨X,off+j,none⟩ by unfold Addr.add;split <;> simp_all]
 . obtain ⟨m',ho',hS'⟩:=hown.of_own h0 h2 h3 h4
   exact h v' m' w' ho' (hS'.perm (Ko k hm))
theorem apP {ops:Array Oper} {rest:List Oper} (k:Nat) {m p:PH} (hp:Src I ms p) (hS:Sat E I ms w) (hg:o.guard=none) (hm:ms[k]?=some m) {s x:Operand} {t:TypeId} (ho:o.op=.call { callee:=.builtin .append,args := #[s,x],argTypes := #[t,t] })
  {e:TypeId} {z:Value} {size bytes:Nat} (ht:P.underlying t=some (.slice e)) (hi:(P.info? e).map (fun i=>(i.zero,i.size,i.bytes))=some (some z,size,bytes)) (hzs:z.cells.size=size) (hsz:0<size)
  {v:Value} {n:Nat} {xs:List Value} (hs:a.eval s=v) (hown:OwnP m e size v n xs)
  {X off r c:Nat} {news:List Value} (hx:a.eval x=.slice (some ⟨X,off,none⟩) r c) (hl:news.length=r * size) (hnews:Cells p X off news) (h1:news.all (·.oneCell')=true)
  (h63:n+r<=maxLen) (hbytes:(n+r) * bytes<=140737488355328)
  (h:∀ v' m' w',OwnP m' e size v' (n+r) (xs ++ news)->Sat E I (ms.set k m') w'->wpList P ops Q rest (a.put o.dst v') w'):wpList P ops Q (o::rest) a w :=
 wpList_plain hg fun _ hK=>wp_apP hS k hm hp ho ht hi hzs hsz hs hown hx hl hnews h1 h63 hbytes fun v' m' w' h2 h3=>hK _ _ (h v' m' w' h2 h3)
theorem run_append_of_nil' {w:World} {base:Nat} (t ty e:TypeId) (i:TypeInfo) (size:Nat) (ht:P.underlying t=some (.slice e)) (hi:P.info? e=some i)
  (v:Value) (n:Nat) (xs:List Value) (hown:Own w base e size v n xs) (c:Nat):(Builtin.append_ #[t,t] ty #[v,.slice none 0 c]).run P w=.ok v w:=by
 rcases hown.2 with ⟨rfl,rfl⟩|⟨g,cap,cur,rfl,_,_,hnc,_⟩
 . simp [Builtin.append_,run_underlying ht,sizeOf,typeInfo,hi,Builtin.lenOf,Builtin.firstCells]
 . simp [Builtin.append_,run_underlying ht,sizeOf,typeInfo,hi,Builtin.lenOf,Builtin.firstCells,hnc,storeCells]
theorem wp_apS (hS:Sat E I ms w) (k:Nat) {m p:PH} (hm:ms[k]?=some m) (hp:Src I ms p) {s x:Operand} {t:TypeId} (ho:o.op=.call { callee:=.builtin .append,args := #[s,x],argTypes := #[t,t] })
  {e:TypeId} {z:Value} {size bytes:Nat} (ht:P.underlying t=some (.slice e)) (hi:(P.info? e).map (fun i=>(i.zero,i.size,i.bytes))=some (some z,size,bytes)) (hzs:z.cells.size=size) (hsz:0<size)
  {v:Value} {n:Nat} {xs:List Value} (hs:a.eval s=v) (hown:OwnP m e size v n xs)
  {A:Option Addr} {r c:Nat} {news:List Value} (hx:a.eval x=.slice A r c) (hl:news.length=r * size) (hnews:0<r->∃ X off,A=some ⟨X,off,none⟩/\Cells p X off news) (h1:∀ u ∈ news,u.oneCell'=true)
  (h63:n+r<=maxLen) (hbytes:(n+r) * bytes<=140737488355328)
  (h:∀ v' m' w',OwnP m' e size v' (n+r) (xs ++ news)->Sat E I (ms.set k m') w'->K (a.put o.dst v') w'):o.wp P a w K Q:=by
 obtain ⟨i,hi1,hz1,hs1,hy1⟩:=info_parts hi;have h0:=hS.perm (Kg k hm);have hO:=hown.own (h0.own _ (.head _));cases A with
 | none =>
   have hr:r=0:=by
    rcases kMb r with h2|h2
    . exact h2
    . obtain ⟨_,_,h3,_⟩:=hnews h2
      cases h3
   subst hr;have hn:news=[]:=jJa (by simpa using hl);subst hn;unfold Oper.wp execOp;simp only [ho,resolve,invoke,builtin,Sem.run_bind,Sem.run_pure,Result.andThen_ok,kQb,jD,jTb,hs,hx,run_append_of_nil' t o.type e i size ht hi1 v n xs hO c];exact h v m w (by simpa using hown) (h0.perm (Ko k hm))
 | some ad =>
   refine wp_append_Own w s x t ho 0 e i z size bytes ht hi1 hz1 hs1 hy1 hzs hsz v n xs hs hO ad r c news hx hl (fun j u hu=>?_) h1 h63 hbytes (jCa _) fun v' w' h2 h3 h4=>?_
   . have hr:0<r:=by
       have:=(yE.1 hu).1;rw [hl] at this;rcases kMb r with h2|h2
       . subst h2;omega
       . exact h2
     obtain ⟨X,off,hA,hc⟩:=hnews hr;injection hA with hA
     subst hA
     have:=Qn (hS.src hp) (hc j u hu)
     rwa [show (⟨X,off,none⟩:Addr).add j=⟨X,off+j,none⟩ by unfold Addr.add;split <;> simp_all]
   . obtain ⟨m',ho',hS'⟩:=hown.of_own h0 h2 h3 h4
     exact h v' m' w' ho' (hS'.perm (Ko k hm))
theorem apS {ops:Array Oper} {rest:List Oper} (k:Nat) {m p:PH} (hp:Src I ms p) (hS:Sat E I ms w) (hg:o.guard=none) (hm:ms[k]?=some m) {s x:Operand} {t:TypeId} (ho:o.op=.call { callee:=.builtin .append,args := #[s,x],argTypes := #[t,t] })
  {e:TypeId} {z:Value} {size bytes:Nat} (ht:P.underlying t=some (.slice e)) (hi:(P.info? e).map (fun i=>(i.zero,i.size,i.bytes))=some (some z,size,bytes)) (hzs:z.cells.size=size) (hsz:0<size)
  {v:Value} {n:Nat} {xs:List Value} (hs:a.eval s=v) (hown:OwnP m e size v n xs)
  {A:Option Addr} {r c:Nat} {news:List Value} (hx:a.eval x=.slice A r c) (hl:news.length=r * size) (hnews:0<r->∃ X off,A=some ⟨X,off,none⟩/\Cells p X off news) (h1:∀ u ∈ news,u.oneCell'=true)
  (h63:n+r<=maxLen) (hbytes:(n+r) * bytes<=140737488355328)
  (h:∀ v' m' w',OwnP m' e size v' (n+r) (xs ++ news)->Sat E I (ms.set k m') w'->wpList P ops Q rest (a.put o.dst v') w'):wpList P ops Q (o::rest) a w :=
 wpList_plain hg fun _ hK=>wp_apS hS k hm hp ho ht hi hzs hsz hs hown hx hl hnews h1 h63 hbytes fun v' m' w' h2 h3=>hK _ _ (h v' m' w' h2 h3)
end
end
section
open Go.RowKit
def chainOk (A:List (List Nat)) (bxs:List Bx) (c:List Nat) (n:Nat):Bool :=
 ((List.range c.length).all fun t=>decide (c.getD t 0<n) && ((List.range c.length).all fun u=>t == u || (c.getD t 0 != c.getD u 0)) && (t == 0 || (A.getD (c.getD t 0) []).contains (c.getD (t - 1) 0))) && bxs.all fun b=>!c.contains b.i && !c.contains b.s
theorem wp_as {P:Program} {a:Act} {w:World} {K:Act->World->Prop} {Q:Exit->Act->World->Prop} {dst:Option Tmp} {type:TypeId} {pos:String} {after:Array Edge} {g:Option (Nat × Bool)} {x:Operand}
  (h:K (a.put dst (a.eval x)) w):Oper.wp P ⟨dst,.assign x,type,pos,after,g⟩ a w K Q:=by
 unfold Oper.wp execOp;simp only [Sem.run_pure];exact h
end
section
open Go.ChangeShapes Go.WideShapes Go.ChangeAt Go.RowKit
section
variable {E W W':World} {I J:PH} {ms ns:List PH}
theorem Sat.turn {B:Nat} {row:Option Nat} (hS:Sat E I ms W) (hg:W.grownBy W' row) (hr:∀ r,row=some r->B<=r/\∃ o:Obj,W.heap[r]?=some o/\o.isCells=false)
  (hI:∀ b o,I b=some o->b<B\/o.isCells=true) (hm:∀ m ∈ ms,∀ b o,m b=some o->b<B\/o.isCells=true):Sat E I ms W':=by
 have key:∀ b o,W.heap[b]?=some o->(b<B\/o.isCells=true)->W'.heap[b]?=some o:=fun b o hb h=>by
  rw [hg.block b (jDa.1 hb).1,hb];rintro e;obtain ⟨h1,o',h2,h3⟩:=hr b e.symm;rw [hb] at h2;cases h2;rcases h with h|h
  . omega
  . rw [h3] at h;cases h
 exact ⟨hg.os.trans hS.os,hg.tape.trans hS.tape,hg.output.trans hS.output,fun b o hb=>key b o (hS.imm b o hb) (hI b o hb),fun m hm' b o hb=>key b o (hS.own m hm' b o hb) (hm m hm' b o hb),hS.sep,hS.dis,jL hS.size hg.size⟩
theorem Sat.full (hS:Sat E I ms W):∃ I':PH,I.le I'/\Sat W I' ms W/\∀ b,(∀ m ∈ ms,m b=none)->I' b=W.heap[b]?:=by
 classical
 refine ⟨fun b=>if ∃ m ∈ ms,m b≠none then none else W.heap[b]?,fun b o hb=>?_,⟨rfl,rfl,rfl,fun b o hb=>?_,hS.own,fun m hm b=>?_,hS.dis,jBb _⟩,fun b hb=>?_⟩
 . show (if _ then none else _)=_
   rw [jAb,hS.imm b o hb];rintro ⟨m,hm,hne⟩;rcases hS.sep m hm b with h|h
   . exact hne h
   . rw [hb] at h;cases h
 . split at hb
   . cases hb
   . exact hb
 . cases hmb:m b with
   | none=>exact .inl rfl
   | some o=>exact .inr (jAa ⟨m,hm,by rw [hmb];simp⟩)
 . show (if _ then none else _)=_
   rw [jAb];rintro ⟨m,hm,hne⟩;exact hne (hb m hm)
theorem Sat.find (hS:Sat E I ms W) (hI:∀ b,(∀ m ∈ ms,m b=none)->I b=W.heap[b]?) (b:Nat):∃ p,Src I ms p/\∀ o,W.heap[b]?=some o->p b=some o:=by
 classical
 by_cases h:∀ m ∈ ms,m b=none
 . exact ⟨I,.inl (PH.le.refl I),fun o ho=>by rw [hI b h];exact ho⟩
 . obtain ⟨m,hm⟩:=Classical.not_forall.1 h
   obtain ⟨hm,hne⟩:=Classical.not_imp.1 hm;refine ⟨m,.inr hm,fun o ho=>?_⟩;cases hmb:m b with
   | none=>exact absurd hmb hne
   | some u=>rw [<- ho,<- hS.own m hm b u hmb]
theorem Sat.keeps {S:Nat->Prop} (hI:∀ b,(∀ m ∈ ms,m b=none)->I b=W.heap[b]?) (hS:∀ b,S b->b<W.heap.size) (hm:∀ m ∈ ms,∀ b,S b->m b=none) (hJ:I.le J) (h:Sat W J ns W') :
  Keeps S W W'/\∀ m ∈ ns,∀ b,S b->m b=none:=by
 have key:∀ b,S b->∃ o,W.heap[b]?=some o/\J b=some o:=fun b hb=>by
  have h1:=jVb (hS b hb);refine ⟨_,h1,hJ b _ ?_⟩;rw [hI b fun m hm'=>hm m hm' b hb,h1]
 refine ⟨⟨h.size,fun b hb=>?_⟩,fun m hm' b hb=>?_⟩
 . obtain ⟨o,h1,h2⟩:=key b hb
   rw [h1,h.imm b o h2]
 . obtain ⟨o,_,h2⟩:=key b hb
   rcases h.sep m hm' b with h3|h3
   . exact h3
   . rw [h2] at h3;cases h3
theorem PH.at_of_cell {p:PH} {X off:Nat} {v:Value} (hp:∀ o,W.heap[X]?=some o->p X=some o) (hc:W.cell? ⟨X,off,none⟩=some v):p.at X off=some v:=by
 unfold World.cell? at hc;unfold PH.at
 cases hw:W.heap[X]? with
 | none=>rw [hw] at hc;cases hc
 | some o =>
   rw [hp o hw];rw [hw] at hc;cases o <;> first|(cases hc)|(simpa using hc)
theorem OwnP.isCells {m:PH} {e:TypeId} {size n:Nat} {v:Value} {xs:List Value} (h:OwnP m e size v n xs):∀ b o,m b=some o->o.isCells=true:=fun b o hb=>by
 rcases h.2 with ⟨_,_,rfl⟩|⟨g,cap,cur,_,rfl,_⟩
 . cases hb
 . obtain ⟨_,rfl⟩:=PH.one_some hb
   rfl
theorem PH.one_isCells {X:Nat} {c:Array Value} {T:TypeId} {z:Nat × Nat}:∀ b o,PH.one X (.cells c T z) b=some o->o.isCells=true:=fun b o hb=>by
 obtain ⟨_,rfl⟩:=PH.one_some hb;rfl
end
structure Veil (p:Prop):Prop where
 out:p
theorem wp_bsl {P:Program} {a:Act} {w E:World} {K:Act->World->Prop} {Q:Exit->Act->World->Prop} {I:PH} {ms:List PH} {dst:Option Tmp} {type:TypeId} {pos:String} {after:Array Edge} {g:Option (Nat × Bool)} {T:TypeId} {n:Nat} {parts:Array (Nat × Operand)}
  (hS:Sat E I ms w) {cs:Array Value} {e:TypeId} (hr:∀ w:World,(Instr.buildSlice T n (parts.map fun (i,x)=>(i,a.eval x))).run P w=.ok (.slice (some ⟨w.heap.size,0,none⟩) n n) (w.alloc (.cells cs e)))
  (h:∀ X w',Sat E I (PH.one X (.cells cs e)::ms) w'->K (a.put dst (.slice (some ⟨X,0,none⟩) n n)) w'):Oper.wp P ⟨dst,.buildSlice T n parts,type,pos,after,g⟩ a w K Q:=by
 unfold Oper.wp execOp;simp only [Sem.run_bind,hr,Result.andThen_ok,Sem.run_pure];exact h _ _ (hS.alloc _)
theorem rowsIn_round {n l:Nat} {P:Program} {r:String} {args:Array Value} {w:World} {R:Value->World->Prop} (h:Rows P r args w R):RowsIn (Fence.wide.inRound l) n P r args w R:=fun c cs _ =>
 let ⟨v,w',hr,s⟩:=h c cs;⟨v,w',hr,stepsIn_wide.2 s⟩
theorem callsIn_round {n l:Nat} {P:Program} {f:FuncId} {args:Array Value} {w:World} {R:Ending->World->Prop} (h:Calls P f args w R):CallsIn (Fence.wide.inRound l) n P f args w R:=CallsIn.inRound _ (callsIn_wide.2 h)
end
section
open Go.RowKit
def RV (P:Program) (w:World) (tmps:Array Value):ResultVar->Value->Prop
 | .tmp t,v=>tmps.getD t undef=v
 | .cell p T,v=>∃ X,tmps.getD p undef=.pointer (some ⟨X,0,none⟩)/\(loadVar T ⟨X,0,none⟩).run P w=.ok v w
section
variable {P:Program} {fn:Func} {tmps:Array Value} {w E:World} {I:PH} {ms:List PH}
theorem rvt {t:Tmp} {v:Value} (h:tmps.getD t undef=v):RV P w tmps (.tmp t) v:=h
theorem rvN (k:Nat) (hS:Sat E I ms w) {p:Tmp} {T:TypeId} {X:Nat} {c:Array Value} {T':TypeId} {z:Nat × Nat} (hp:tmps.getD p undef=.pointer (some ⟨X,0,none⟩)) (hm:ms[k]?=some (PH.one X (.cells c T' z)))
  (ha:Ze P T=some true) (hs:Km P T=some c.size):RV P w tmps (.cell p T) (.agg c):=by
 have h1:=run_loadN (P:=P) (hS.mle hm) ha (Cells.one X c T' z) (by rw [hs];simp);simp only [Instr.loadAt,Instr.sureAddr,Sem.run_bind,Sem.run_pure,Result.andThen_ok] at h1;exact ⟨X,hp,h1⟩
def rvSem (tmps:Array Value):ResultVar->Sem Value
 | .tmp t=>pure (tmps.getD t undef)
 | .cell a t=>do loadVar t (<- asAddr (tmps.getD a undef))
theorem rv_run {r:ResultVar} {v:Value} (h:RV P w tmps r v):(rvSem tmps r).run P w=.ok v w:=by
 cases r with
 | tmp t=>simp only [rvSem,Sem.run_pure];rw [show tmps.getD t undef=v from h]
 | cell p T =>
   obtain ⟨X,hp,hl⟩:=h;simp only [rvSem,hp,asAddr];simp [hl]
theorem results_sem (fn:Func) (tmps:Array Value):results fn tmps=(do let vs <- fn.results.mapM (rvSem tmps);pure (if h:vs.size=1 then vs[0] else .tuple vs)):=by
 unfold results;refine jQb (fun f:ResultVar->Sem Value=>(do let vs <- fn.results.mapM f;pure (if h:vs.size=1 then vs[0] else .tuple vs))) (funext fun r=>?_);cases r <;> rfl
theorem res2 {r1 r2:ResultVar} {v1 v2:Value} (h:fn.results = #[r1,r2]) (h1:RV P w tmps r1 v1) (h2:RV P w tmps r2 v2):(results fn tmps).run P w=.ok (.tuple #[v1,v2]) w:=by
 have e1:=rv_run h1;have e2:=rv_run h2;simp [results_sem,h,e1,e2]
theorem res4 {r1 r2 r3 r4:ResultVar} {v1 v2 v3 v4:Value} (h:fn.results = #[r1,r2,r3,r4]) (h1:RV P w tmps r1 v1) (h2:RV P w tmps r2 v2) (h3:RV P w tmps r3 v3) (h4:RV P w tmps r4 v4):(results fn tmps).run P w=.ok (.tuple #[v1,v2,v3,v4]) w:=by
 have e1:=rv_run h1;have e2:=rv_run h2;have e3:=rv_run h3;have e4:=rv_run h4;simp [results_sem,h,e1,e2,e3,e4]
end
end
section
open Go.RowKit
section
variable {α:Type} {f:α->List Value} {k:Nat}
def RowG (J:PH) (f:α->List Value) (v:Value) (xs:List α):Prop:=∃ A c,v=.slice A xs.length c/\xs.length<=c/\c<=maxLen/\(0<xs.length->∃ X off,A=some ⟨X,off,none⟩/\Cells J X off (xs.flatMap f))
theorem RowG.le {I J:PH} {v:Value} {xs:List α} (h:RowG I f v xs) (hJ:I.le J):RowG J f v xs:=by
 obtain ⟨A,c,h1,h2,h3,h4⟩:=h;exact ⟨A,c,h1,h2,h3,fun h=>by obtain ⟨X,off,e,hc⟩:=h4 h;exact ⟨X,off,e,hc.le hJ⟩⟩
theorem RowG.nil (J:PH) (f:α->List Value):RowG J f (.slice none 0 0) []:=⟨none,0,rfl,jBb _,jCa _,fun h=>by simp at h⟩
theorem RowG.len {J:PH} {v:Value} {xs:List α} (h:RowG J f v xs):xs.length<=maxLen:=by obtain ⟨_,_,_,h1,h2,_⟩:=h;omega
theorem flatK (hk:∀ x,(f x).length=k):∀ (xs:List α) (i:Nat) (x:α),xs[i]?=some x->∀ j v,(f x)[j]?=some v->(xs.flatMap f)[i * k+j]?=some v
 | [],_,_,h,_,_,_=>by simp at h
 | x::xs,0,n,h,j,v,hj=>by
   simp at h;subst h
   rw [jO,qAa,jR,jPb (yE.1 hj).1];exact hj
 | x::xs,i+1,n,h,j,v,hj=>by
   rw [jO,jXb (by rw [hk,kFb];omega),hk,show (i+1) * k+j - k=i * k+j by rw [kFb];omega];exact flatK hk xs i n (by simpa using h) j v hj
theorem flat_len (hk:∀ x,(f x).length=k):∀ xs:List α,(xs.flatMap f).length=xs.length * k
 | []=>by simp
 | x::xs=>by rw [jO,yG,flat_len hk xs,hk,yB,kFb];omega
theorem RowG.at_ (hk:∀ x,(f x).length=k) {J:PH} {A:Option Addr} {xs:List α} {n c:Nat} (h:RowG J f (.slice A n c) xs) {i:Nat} {x:α} (hi:xs[i]?=some x):∃ X off,A=some ⟨X,off,none⟩/\Cells J X (off+i * k) (f x):=by
 obtain ⟨A',c',e,_,_,h4⟩:=h;injection e with e1
 subst e1;have hlt:=(yE.1 hi).1;obtain ⟨X,off,rfl,hc⟩:=h4 (by omega);refine ⟨X,off,rfl,fun j v hj=>?_⟩;rw [Nat.add_assoc];exact hc _ _ (flatK hk xs i x hi j v hj)
theorem drop_flat (hk:∀ x,(f x).length=k) (xs:List α) (i:Nat) (hi:i<=xs.length):(xs.flatMap f).drop (i * k)=(xs.drop i).flatMap f:=by
 have hl:((xs.take i).flatMap f).length=i * k:=by rw [flat_len hk,jUa,kA hi]
 conv=>lhs;rw [<- jX i xs]
 rw [jLb,List.drop_append_of_le_length (by omega),jYb (by omega),List.nil_append]
theorem take_flat (hk:∀ x,(f x).length=k) (xs:List α) (i:Nat) (hi:i<=xs.length):(xs.flatMap f).take (i * k)=(xs.take i).flatMap f:=by
 have hl:((xs.take i).flatMap f).length=i * k:=by rw [flat_len hk,jUa,kA hi]
 conv=>lhs;rw [<- jX i xs]
 rw [jLb,kEa (by omega),jFa (by omega)]
theorem RowG.slice (hk:∀ x,(f x).length=k) {J:PH} {A:Option Addr} {xs:List α} {m c:Nat} (h:RowG J f (.slice A m c) xs) {i n:Nat} (hn:i+n<=xs.length) (h0:0<n):∃ X off,A=some ⟨X,off,none⟩/\Cells J X (off+i * k) (((xs.drop i).take n).flatMap f):=by
 obtain ⟨A',c',e,_,_,h4⟩:=h;injection e with e1
 subst e1;obtain ⟨X,off,rfl,hc⟩:=h4 (by omega);refine ⟨X,off,rfl,fun j v hj=>?_⟩;refine hc.part (i * k) (n * k) j v ?_;rw [drop_flat hk xs i (by omega),take_flat hk _ n (by rw [kWb];omega)];exact hj
theorem OwnP.rowG {J m:PH} {e:TypeId} {v:Value} {xs:List α} (h:OwnP m e k v xs.length (xs.flatMap f)) (hm:m.le J):RowG J f v xs:=by
 obtain ⟨A,c,rfl,hc⟩:=h.shape;refine ⟨A,c,rfl,hc,?_,fun hn=>?_⟩
 . rcases h.2 with ⟨h1,_,_⟩|⟨g,cap,cur,h1,_,_,h2,_⟩
   . injection h1 with _ _ h3;rw [h3];exact jCa _
   . injection h1 with _ _ h3;rw [h3];exact h2
 . obtain ⟨g,hA,hcs⟩:=h.cells hn
   exact ⟨g,0,hA,hcs.le hm⟩
end
end
section
open Go.RowKit
def stopAt (A:List (List Nat)) (c:List Nat) (k:Nat):Nat:=c.findIdx fun i=>(A.getD i []).contains k
def Deep_ (A:List (List Nat)) (c:List Nat) (L:Nat->Bool):Prop:=∀ t,t<c.length->L (c.getD t 0)=true->∀ k ∈ A.getD (c.getD t 0) [],L k=true
theorem stopAt_mem {A:List (List Nat)} {c:List Nat} {k:Nat} (h:stopAt A c k<c.length):k ∈ A.getD (c.getD (stopAt A c k) 0) []:=by
 have:=List.findIdx_getElem (w:=h);unfold stopAt at h ⊢;rw [show c.getD (c.findIdx fun i=>(A.getD i []).contains k) 0=c[c.findIdx fun i=>(A.getD i []).contains k] by rw [yD,yA h];rfl]
 simpa using this
theorem Deep_.here {A:List (List Nat)} {c:List Nat} {L:Nat->Bool} {i:Nat} (h:Deep_ A c L) (hi:∀ j ∈ A.getD i [],L j=true):Deep_ A c (upd L i true):=by
 intro t ht hL j hj;by_cases e:j=i
 . subst e;exact Qr _ _ _
 . rw [Kb _ _ e]
   by_cases e2:c.getD t 0=i
   . rw [e2] at hj;exact hi j hj
   . rw [Kb _ _ e2] at hL;exact h t ht hL j hj
theorem Qg {P:Program} {id:Nat} {ops:List Oper} {Q:Exit->Act->World->Prop} {a:Act} {w:World} (A:List (List Nat)) (E:World) (I:PH) (ms:List PH) (Ds:List Fct)
  (c:List Nat) (G:Nat->(Nat->Value)->PH->List PH->Prop)
  (hm:P.follows .mixedOrders=true) (chk:ogOk ops A a.tmps.size=true) (hc:chainOk A [] c ops.length=true)
  (hS:Sat E I ms w) (hG:G 0 (fun _=>undef) I ms) (lasting:Lasting Ds)
  (gst:∀ s vals vals' J ns,(∀ j ∈ c.take s,vals j=vals' j)->G s vals J ns->G s vals' J ns) (gle:∀ s vals J J' ns,PH.le J J'->G s vals J ns->G s vals J' ns)
  (plain:Below_ (fun k=>c.contains k=true\/∀ (s:Nat) (vals:Nat->Value) (J:PH) (bs:List PH) (w':World),s<=stopAt A c k->Given (fun j=>Facts Ds j (vals j) J) (A.getD k [])->I.le J->Sat E J bs w'->G s vals J bs ->
    Veil0 (Zi P ops (Qf ops k) (fun a' w''=>a'.defers=a.defers/\∃ J':PH,J.le J'/\Sat E J' bs w''/\Facts Ds k (Qh (Qf ops k) a') J') (Qb ops vals a k) w')) ops.length)
  (step:Below_ (fun s=>∀ (vals:Nat->Value) (J:PH) (bs:List PH) (w':World),Given (fun j=>Facts Ds j (vals j) J) (A.getD (c.getD s 0) [])->I.le J->Sat E J bs w'->G s vals J bs ->
    Veil0 (Zi P ops (Qf ops (c.getD s 0)) (fun a' w''=>a'.defers=a.defers/\∃ (J':PH) (ns':List PH),J.le J'/\Sat E J' ns' w''/\Facts Ds (c.getD s 0) (Qh (Qf ops (c.getD s 0)) a') J'/\G (s+1) (upd vals (c.getD s 0) (Qh (Qf ops (c.getD s 0)) a')) J' ns') (Qb ops vals a (c.getD s 0)) w')) c.length)
  (fin:∀ (vals:Nat->Value) (J:PH) (bs:List PH) (w':World),I.le J->Below_ (fun j=>Facts Ds j (vals j) J) ops.length->Sat E J bs w'->G c.length vals J bs->Veil0 (Q .normal (Qb ops vals a ops.length) w')) :
  (Code.region id ops.toArray true).wp P Q a w:=by
 unfold chainOk at hc;rw [jEa] at hc;obtain ⟨hc1,_⟩:=hc;have hc1':∀ t,t<c.length->c.getD t 0<ops.length/\(∀ u,u<c.length->t≠u->c.getD t 0≠c.getD u 0)/\(t≠0->c.getD (t - 1) 0 ∈ A.getD (c.getD t 0) []):=fun t ht=>by
  have:=jLa.1 hc1 t (jZb.2 ht);simp only [jEa,jJ,kDa,jVa] at this;refine ⟨this.1.1,fun u hu hne=>?_,fun h0=>?_⟩
  . have h2:=jLa.1 this.1.2 u (jZb.2 hu)
    simp only [kDa,jVa,kWa] at h2;rcases h2 with h2|h2
    . exact absurd h2 hne
    . exact h2
  . rcases this.2 with h2|h2
    . exact absurd h2 h0
    . simpa using h2
 have cmem:∀ t,t<c.length->c.getD t 0 ∈ c:=fun t ht=>by
  rw [yD,yA ht];exact kKa ht
 have notc:∀ k,k ∉ c->∀ t,t<c.length->c.getD t 0≠k:=fun k hk t ht e=>hk (e ▸ cmem t ht)
 refine region_og A E I [] ms (Facts Ds) (fun L vals J ns=>∃ s,s<=c.length/\(∀ t,t<c.length->(L (c.getD t 0)=true↔t<s))/\G s vals J ns) hm chk (by simpa using hS) ⟨0,jCa _,fun t ht=>by simp,hG⟩ (fun i v I J hJ=>Facts.lasting lasting i v I J hJ) ?_ ?_
 . intro k hk L vals J ns w' hLk hdown hanc hJ hs ⟨s,h1,h2,h3⟩
   by_cases hkc:k ∈ c
   . obtain ⟨t,ht,rfl⟩:=List.mem_iff_getElem.1 hkc
     have eg:c[t]=c.getD t 0:=by rw [yD,yA ht];rfl
     rw [eg] at hLk hanc ⊢;have hst:s=t:=by
      have a1:¬ t<s:=fun h=>by rw [(h2 t ht).2 h] at hLk;cases hLk
      by_cases h0:t=0
      . omega
      . have a2:=(h2 (t - 1) (by omega)).1 (hanc _ ((hc1' t ht).2.2 h0)).1
        omega
     subst hst;refine Xk (step.get s ht vals J ns w' (Given.of fun j hj=>(hanc j hj).2) hJ (by simpa using hs) h3).out fun a' w'' hpost=>?_
     obtain ⟨p1,J',ns',p2,p3,p4,p5⟩:=hpost;refine ⟨p1,J',ns',p2,by simpa using p3,p4,s+1,ht,fun u hu=>?_,p5⟩;by_cases hus:u=s
     . subst hus;rw [Qr];simp
     . rw [Kb _ _ ((hc1' u hu).2.1 s ht hus),h2 u hu]
       omega
   . rcases plain.get k hk with h|h
     . exact absurd (by simpa using h) hkc
     . have hst:s<=stopAt A c k:=by
         rcases jY (stopAt A c k) s with hlt|hge
         . exfalso
           have hlc:stopAt A c k<c.length:=by omega
           have:=hdown _ (hc1' _ hlc).1 ((h2 _ hlc).2 hlt) k (stopAt_mem hlc);rw [hLk] at this;cases this
         . exact hge
       refine Xk (h s vals J ns w' hst (Given.of fun j hj=>(hanc j hj).2) hJ (by simpa using hs) h3).out fun a' w'' hpost=>?_
       obtain ⟨p1,J',p2,p3,p4⟩:=hpost;refine ⟨p1,J',ns,p2,by simpa using p3,p4,s,h1,fun t ht=>by rw [Kb _ _ (notc k hkc t ht)];exact h2 t ht,gst s vals _ J' ns (fun j hj=>?_) (gle s vals J J' ns p2 h3)⟩;rw [Kb];rintro rfl;exact hkc (kX hj)
 . intro vals J ns w' hJ hD hs ⟨L,hL,s,h1,h2,h3⟩
   have hsl:s=c.length:=by
    rcases jY s c.length with hlt|hge
    . have:=(h2 s hlt).1 (hL _ (hc1' s hlt).1)
      omega
    . omega
   subst hsl;have hB2:Below_ (fun j=>Facts Ds j (vals j) J) ops.length:=by
    have:∀ n,n<=ops.length->Below_ (fun j=>Facts Ds j (vals j) J) n:=fun n=>by
     induction n with
     | zero=>exact fun _=>trivial
     | succ n ih=>exact fun hn=>⟨ih (by omega),hD n (by omega)⟩
    exact this _ (jBb _)
   exact (fin vals J ns w' hJ hB2 (by simpa using hs) h3).out
section
variable {P:Program} {o:Oper} {a:Act} {w E:World} {K:Act->World->Prop} {Q:Exit->Act->World->Prop} {I:PH} {ms:List PH} {ops:Array Oper} {rest:List Oper}
theorem wp_mks (hS:Sat E I ms w) {t e:TypeId} {l c:Operand} (ho:o.op=.makeSlice t l c) (ht:P.underlying t=some (.slice e)) {z:Value} {size bytes:Nat} (hi:(P.info? e).map (fun i=>(i.zero,i.size,i.bytes))=some (some z,size,bytes))
  {kl kc:IntKind} {L C:Int} {n m:Nat} (hl:a.eval l=.int kl L) (hc:a.eval c=.int kc C) (hL:L=(n:Int)) (hC:C=(m:Int)) (hnm:n<=m) (hb:bytes * m<=281474976710656) (h63:m<=9223372036854775807)
  (h:∀ X w',Sat E I (PH.one X (.cells (madeCells z.cells (m * size)) e)::ms) w'->K (a.put o.dst (.slice (some ⟨X,0,none⟩) n m)) w'):o.wp P a w K Q:=by
 subst hL hC;obtain ⟨i,hi1,hz1,hs1,hy1⟩:=info_parts hi;have hb':(i.bytes:Int) * (m:Int)<=281474976710656:=by
  rw [hy1,<- Int.natCast_mul];omega
 have hr:=run_make (P:=P) w t e i z ht hi1 hz1 kl kc n m (by omega) (by omega) hb' (by omega);rw [hs1] at hr;simp only [Int.toNat_natCast] at hr;unfold Oper.wp execOp;simp only [ho,hl,hc,Sem.run_bind,hr,Result.andThen_ok,Sem.run_pure];exact h _ _ (hS.alloc _)
theorem mks (hS:Sat E I ms w) (hg:o.guard=none) {t e:TypeId} {l c:Operand} (ho:o.op=.makeSlice t l c) (ht:P.underlying t=some (.slice e)) {z:Value} {size bytes:Nat} (hi:(P.info? e).map (fun i=>(i.zero,i.size,i.bytes))=some (some z,size,bytes))
  {kl kc:IntKind} {L C:Int} {n m:Nat} (hl:a.eval l=.int kl L) (hc:a.eval c=.int kc C) (hL:L=(n:Int)) (hC:C=(m:Int)) (hnm:n<=m) (hb:bytes * m<=281474976710656) (h63:m<=9223372036854775807)
  (h:∀ X w',Sat E I (PH.one X (.cells (madeCells z.cells (m * size)) e)::ms) w'->wpList P ops Q rest (a.put o.dst (.slice (some ⟨X,0,none⟩) n m)) w'):wpList P ops Q (o::rest) a w :=
 wpList_plain hg fun _ hK=>wp_mks hS ho ht hi hl hc hL hC hnm hb h63 fun X w' h'=>hK _ _ (h X w' h')
end
theorem isMake {P:Program} {a:Act} {w:World} {Q:Exit->Act->World->Prop} {ops:Array Oper} {rest:List Oper} {dst:Option Tmp} {type:TypeId} {pos:String} {after:Array Edge} {T:TypeId} {x y:Operand} (h:wpList P ops Q (⟨dst,.makeSlice T x y,type,pos,after,none⟩::rest) a w):wpList P ops Q (⟨dst,.makeSlice T x y,type,pos,after,none⟩::rest) a w:=h
end
section
open Go.RowKit
section
variable {E w w':World} {I m:PH} {ms:List PH} {e:TypeId} {size n:Nat} {v:Value} {xs:List Value}
theorem OwnP.of_own2 (h:OwnP m e size v n xs) (hS:Sat E I (m::ms) w) {v':Value} {n':Nat} {ys:List Value} (ho:Own w' 0 e size v' n' ys) (hg:w.grownBy w' v.ownBlock)
  (hv:∀ g,v'.ownBlock=some g->v'.ownBlock=v.ownBlock\/w.heap.size<=g):∃ m',OwnP m' e size v' n' ys/\Sat E I (m'::ms) w':=by
 have hblk:∀ b,m b=none->b<w.heap.size->some b≠v.ownBlock:=fun b hb _ he=>by
  rcases h.2 with ⟨rfl,_⟩|⟨g,cap,cur,rfl,rfl,_⟩
  . cases he
  . simp only [Value.ownBlock,jEb] at he
    subst he;rw [PH.one_self] at hb;cases hb
 have keep:∀ b,b<w.heap.size->m b=none->w'.heap[b]?=w.heap[b]?:=fun b hb h0=>hg.block b hb (hblk b h0 hb)
 rcases ho.2 with ⟨rfl,rfl⟩|⟨g,cap,cur,rfl,_,hh,hc⟩
 . exact ⟨fun _=>none,⟨ho.1,.inl ⟨rfl,rfl,rfl⟩⟩,hS.change hg.size hg.os hg.tape hg.output keep (fun b o hb=>by cases hb) (fun b _ _=>rfl)⟩
 . refine ⟨PH.one g (.cells cur e (0,0)),⟨ho.1,.inr ⟨g,cap,cur,rfl,rfl,hc⟩⟩,hS.change hg.size hg.os hg.tape hg.output keep (fun b o hb=>?_) (fun b hb hlt=>?_)⟩
   . obtain ⟨rfl,rfl⟩:=PH.one_some hb
     exact hh
   . unfold PH.one
     rw [jAb];rintro rfl;rcases hv b rfl with h1|h1
     . exact hblk b hb hlt h1
     . omega
end
section
variable {P:Program} {w E:World} {I m:PH} {ms:List PH}
theorem run_append_OwnS (t u ty e:TypeId) (i:TypeInfo) (ht:P.underlying t=some (.slice e)) (hu:P.underlying u=some .string) (hi:P.info? e=some i) (hz:i.zero=some (.int .u8 0)) (hsize:i.size=1) (hby:i.bytes=1)
  (v:Value) (n:Nat) (xs:List Value) (hown:Own w 0 e 1 v n xs) (s:ByteArray) (h63:n+s.size<=maxLen) (hbytes:n+s.size<=140737488355328) :
  ∃ v' w',(Builtin.append_ #[t,u] ty #[v,.string s]).run P w=.ok v' w'/\Own w' 0 e 1 v' (n+s.size) (xs ++ Lib.strCells s)/\w.grownBy w' v.ownBlock/\∀ g,v'.ownBlock=some g->v'.ownBlock=v.ownBlock\/w.heap.size<=g:=by
 have hxl:xs.length=n:=by simpa using hown.1
 have hlen:(xs ++ Lib.strCells s).length=(n+s.size) * 1:=by rw [yG,hxl,Lib.strCells_length,jG]
 rcases hown.2 with ⟨rfl,rfl⟩|⟨g,cap,cur,rfl,_,hg,hnc,hcm,hcs,htake⟩
 . have hx:xs=[]:=jJa hxl
   subst hx;obtain ⟨v',w',hr,h2,h3,_⟩:=Lib.run_append_own_string (P:=P) w w.heap.size t u ty e i ht hu hi hz hsize hby _ 0 [] (World.ownsRow_nil w _ e 1) s h63 hbytes (jBb _);refine ⟨v',w',hr,⟨h2.1,?_⟩,h3,fun g hg=>?_⟩
   . rcases h2.2 with h4|⟨g,cap,cur,h4,h5,h6,h7,h8,h9,h10⟩
     . exact .inl h4
     . exact .inr ⟨g,cap,cur,h4,jCa _,h6,h7,h8,by omega,h10⟩
   . rcases h2.2 with ⟨h4,_⟩|⟨g',cap,cur,h4,h5,_⟩
     . subst h4;cases hg
     . subst h4
       simp only [Value.ownBlock,jEb] at hg;subst hg;exact .inr h5
 . by_cases hroom:n+s.size<=cap
   . have hr:=Lib.run_append_room_string (P:=P) w t u ty e i ht hu hi hsize g n cap cur hg s hroom (by omega)
     refine ⟨_,_,hr,⟨hlen,.inr ⟨g,cap,_,rfl,jCa _,setRow_heap w g cur _ e _ hg,hroom,hcm,?_,?_⟩⟩,⟨rfl,rfl,rfl,by simp,fun k _ hk=>setRow_other w g k _ (fun e=>hk (by simp [Value.ownBlock,e]))⟩,fun _ _=>.inl rfl⟩
     . simp only [jSa,yG,jUa,kWb,Array.length_toList,Lib.strCells_length]
       omega
     . have ht':cur.toList.take n=xs:=by simpa using htake
       rw [ht',<- hlen];exact qBa
   . have hall:∀ j u,xs[j]?=some u->w.cell? ((⟨g,0,none⟩:Addr).add j)=some u:=by
       intro j u hu;have hj:j<n * 1:=by rw [<- hown.1];exact (yE.1 hu).1
       have h0:(⟨g,0,none⟩:Addr).add j=⟨g,j,none⟩:=by
        unfold Addr.add;by_cases h0:j=0 <;> simp [h0]
       rw [h0,cell_of_row w g j cur e (0,0) hg,<- hu,<- htake,kIa hj];simp
     have hmx:n+s.size<=9223372036854775807:=by unfold maxLen at h63;omega
     have hr:=Lib.run_append_grow_string (P:=P) w t u ty e i (.int .u8 0) ht hu hi hz ⟨g,0,none⟩ n cap xs (by rw [hsize];simpa using hxl) hall s (by omega) (by omega) (by rw [hby];exact growslice_fits (by omega) (by omega));have hge:=grownCap_ge w (n+s.size) cap e;have hcm2:grownCap w (n+s.size) cap e<=maxLen:=grownCap_le_maxLen w (n+s.size) cap e h63;refine ⟨_,_,hr,⟨hlen,.inr ⟨w.heap.size,_,_,rfl,jCa _,heap_alloc_new w.drew _,hge,hcm2,?_,?_⟩⟩,⟨rfl,rfl,rfl,by simp,fun k hk _=>heap_alloc_old w.drew _ hk⟩,fun g' hg'=>.inr ?_⟩
     . have hz1:(Value.int IntKind.u8 0).cells.size=1:=rfl
       simp only [Array.size_append,jSa,size_zeroCells,hz1,hxl,Lib.strCells_length];omega
     . simp only [Array.toList_append,jFb]
       rw [<- jFb,<- hlen];exact qBa
     . simp only [Value.ownBlock,jEb] at hg'
       omega
theorem wp_apStr {o:Oper} {a:Act} {K:Act->World->Prop} {Q:Exit->Act->World->Prop} (hS:Sat E I ms w) (k:Nat) (hm:ms[k]?=some m) {s x:Operand} {t u:TypeId} (ho:o.op=.call { callee:=.builtin .append,args := #[s,x],argTypes := #[t,u] })
  {e:TypeId} (ht:P.underlying t=some (.slice e)) (hu:P.underlying u=some .string) (hi:(P.info? e).map (fun i=>(i.zero,i.size,i.bytes))=some (some (.int .u8 0),1,1))
  {v:Value} {n:Nat} {xs:List Value} (hs:a.eval s=v) (hown:OwnP m e 1 v n xs) {str:ByteArray} (hx:a.eval x=.string str)
  (h63:n+str.size<=140737488355328)
  (h:∀ A' c' m' w',OwnP m' e 1 (.slice A' (n+str.size) c') (n+str.size) (xs ++ Lib.strCells str)->Sat E I (ms.set k m') w'->K (a.put o.dst (.slice A' (n+str.size) c')) w'):o.wp P a w K Q:=by
 obtain ⟨i,hi1,hz1,hs1,hy1⟩:=info_parts hi;have h0:=hS.perm (Kg k hm);obtain ⟨v',w',hr,h2,h3,h4⟩:=run_append_OwnS (P:=P) (w:=w) t u o.type e i ht hu hi1 hz1 hs1 hy1 v n xs (hown.own (h0.own _ (.head _))) str (by unfold maxLen;omega) h63;obtain ⟨m',ho',hS'⟩:=hown.of_own2 h0 h2 h3 h4;unfold Oper.wp execOp;simp only [ho,resolve,invoke,builtin,Sem.run_bind,Sem.run_pure,Result.andThen_ok,kQb,jD,jTb,hs,hx,hr];obtain ⟨A',c',rfl,_⟩:=ho'.shape;exact h A' c' m' w' ho' (hS'.perm (Ko k hm))
theorem apStr {o:Oper} {a:Act} {Q:Exit->Act->World->Prop} {ops:Array Oper} {rest:List Oper} (k:Nat) (hS:Sat E I ms w) (hg:o.guard=none) (hm:ms[k]?=some m) {s x:Operand} {t u:TypeId} (ho:o.op=.call { callee:=.builtin .append,args := #[s,x],argTypes := #[t,u] })
  {e:TypeId} (ht:P.underlying t=some (.slice e)) (hu:P.underlying u=some .string) (hi:(P.info? e).map (fun i=>(i.zero,i.size,i.bytes))=some (some (.int .u8 0),1,1))
  {v:Value} {n:Nat} {xs:List Value} (hs:a.eval s=v) (hown:OwnP m e 1 v n xs) {str:ByteArray} (hx:a.eval x=.string str)
  (h63:n+str.size<=140737488355328)
  (h:∀ A' c' m' w',OwnP m' e 1 (.slice A' (n+str.size) c') (n+str.size) (xs ++ Lib.strCells str)->Sat E I (ms.set k m') w'->wpList P ops Q rest (a.put o.dst (.slice A' (n+str.size) c')) w'):wpList P ops Q (o::rest) a w :=
 wpList_plain hg fun _ hK=>wp_apStr hS k hm ho ht hu hi hs hown hx h63 fun A' c' m' w' h2 h3=>hK _ _ (h A' c' m' w' h2 h3)
theorem Sat.unsafe {g:Nat} {c:Array Value} {T:TypeId} {z:Nat × Nat} (hS:Sat E I (PH.one g (.cells c T z)::ms) w) (n:Nat):Sat E I ms (w.freeze ⟨g,0,none⟩ n):=by
 have hk:∀ b,b≠g->(w.freeze ⟨g,0,none⟩ n).heap[b]?=w.heap[b]?:=fun b hb=>by
  unfold World.freeze;split
  . rfl
  . simp only [kGa]
    rw [jAb (Ne.symm hb)]
 refine (hS.change (m':=fun _=>none) ?_ ?_ ?_ ?_ (fun b hb h0=>?_) (fun b o hb=>by cases hb) (fun _ _ _=>rfl)).drop
 . unfold World.freeze;split <;> simp
 . unfold World.freeze;split <;> rfl
 . unfold World.freeze;split <;> rfl
 . unfold World.freeze;split <;> rfl
 . refine hk b ?_
   rintro rfl;rw [PH.one_self] at h0;cases h0
end
def bcells (l:List Nat):List Value:=l.map fun c:Nat=>Value.int .u8 (c:Int)
theorem bcells_str (s:ByteArray):Lib.strCells s=bcells (lst s):=by
 unfold Lib.strCells bcells lst;rw [jW];rfl
def Bld (X:Nat) (l:List Nat) (mb mr:PH):Prop:=∃ p v,mb=PH.one X (.cells #[.pointer p,v] 70)/\(p=none\/p=some ⟨X,0,none⟩)/\OwnP mr 5 1 v l.length (bcells l)
theorem byte_info:(Tryz.prog.info? 5).map (fun i=>(i.zero,i.size,i.bytes))=some (some (.int .u8 0),1,1):=by kernel_rfl
end
section
open Go.RowKit
theorem ty_agg68:Ze Tryz.prog 68=some false:=by kernel_rfl
theorem Sat.shape {E w:World} {I:PH} {ms:List PH} (h:Sat E I ms w) (k:Nat) {X:Nat} {c:Array Value} {T:TypeId} (hm:ms[k]?=some (PH.one X (.cells c T (0,0)))):w.shape? X=some (T,c.size):=by
 have:=h.own _ (jDb hm) X _ (PH.one_self _ _);simp [World.shape?,this]
theorem bld_info:(Tryz.prog.info? 70).map (·.size)=some 2:=by kernel_rfl
theorem bld_lies:liesAt Tryz.prog Tryz.prog.depth 70 (2 / Tryz.prog.cellsOf 70) 0 70 1=true:=by kernel_rfl
theorem copyCheck_any (E:World) (I:PH) (ms:List PH) (X:Nat) (p:Option Addr) (v:Value) (w:World) (hp:p=none\/p=some ⟨X,0,none⟩) (hS:Sat E I (PH.one X (.cells #[.pointer p,v] 70)::ms) w) :
  Calls Tryz.prog 69 #[.pointer (some ⟨X,0,none⟩)] w fun e w'=>e=.returned (.tuple #[])/\Sat E I (PH.one X (.cells #[.pointer (some ⟨X,0,none⟩),v] 70)::ms) w':=by
 obtain ⟨j,hj,hjs⟩:=kC.1 bld_info;have hsh:=hS.shape 0 rfl;rcases hp with rfl|rfl
 . go_enter Tryz.func69,Tryz.ntmps69
   go_wp2_with (first|(refine aL ?_))
   rw [Lib.run_to_unsafe _ ⟨X,0,none⟩ Tryz.underlying67 Tryz.underlying187 hj (by rw [hjs];decide) hsh (Nat.zero_lt_succ 1)];simp only [Result.andThen];rw [Oper.upon_value];go_wp2_with (fail)
   rw [run_callFunc_extern Tryz.func119 (by kernel_rfl) (by kernel_rfl) (by kernel_rfl) (e:=Extern.AbiNoEscape.same) (by kernel_rfl)];rw [Lib.run_noEscape];simp only [Result.andThen];rw [Oper.upon_value];go_wp2_with (fail)
   rw [Lib.run_from_unsafe _ ⟨X,0,none⟩ Tryz.underlying187 Tryz.underlying67 hj hsh bld_lies];simp only [Result.andThen];rw [Oper.upon_value];go_wp2_with (first|(refine aS ?_;clear hS;intro w hS))
   go_end0
   exact ⟨rfl,hS⟩
 . go_enter Tryz.func69,Tryz.ntmps69
   go_wp2_with (first|(refine aL ?_))
   rw [Lib.run_neq_ptr_same _ _ Tryz.underlying67 hj];go_wp2_with (fail)
   go_end0
   exact ⟨rfl,hS⟩
theorem Yc (E:World) (I:PH) (mb mr:PH) (ms:List PH) (X:Nat) (l:List Nat) (s:ByteArray) (w:World) (hl:l.length+s.size<=1000000) (hB:Bld X l mb mr) (hS:Sat E I (mb::mr::ms) w) :
  Calls Tryz.prog 27 #[.pointer (some ⟨X,0,none⟩),.string s] w fun e w'=>e=.returned (.tuple #[.int .i64 s.size,.nilIface])/\∃ mb' mr',Bld X (l ++ lst s) mb' mr'/\Sat E I (mb'::mr'::ms) w':=by
 obtain ⟨p,v,rfl,hp,hO⟩:=hB;have CC:=yH (fun w'=>copyCheck_any E I (mr::ms) X p v w' hp);obtain ⟨A,c,rfl,_⟩:=hO.shape;go_enter Tryz.func27,Tryz.ntmps27;go_wp2_with (first|(refine aL ?_)|(refine aS ?_;clear hS;intro w hS)|(go_at_call 69;(refine yI (CC.out _ hS) ?_);clear hS;rintro e w ⟨rfl,hS⟩)|(at_builtin;(refine' apStr (v:=_) 1 hS rfl rfl rfl Tryz.underlying68 Tryz.underlying9 byte_info rfl ?hown rfl ?h63 ?_);(case hown=>exact hO);(case h63=>go_light;omega);clear hS;intro A1 c1 m1 w hO1 hS;(try simp only [zF,zG] at hS);(try simp only [Act.put,zE,zF,zG])))
 go_ret2;refine ⟨rfl,_,m1,⟨_,_,rfl,.inr rfl,?_⟩,hS⟩;rw [bcells_str] at hO1;have e1:(l ++ lst s).length=l.length+s.size:=by rw [yG,Qi]
 have e2:bcells (l ++ lst s)=bcells l ++ bcells (lst s):=by unfold bcells;rw [jH]
 rw [e1,e2];exact hO1
theorem bstring_any (E:World) (I:PH) (mb mr:PH) (ms:List PH) (X:Nat) (l:List Nat) (w:World) (h0:l≠[]) (hl:l.length<=1000000) (h8:∀ c ∈ l,c<256) (hB:Bld X l mb mr) (hS:Sat E I (mb::mr::ms) w) :
  Calls Tryz.prog 29 #[.pointer (some ⟨X,0,none⟩)] w fun e w'=>∃ str,e=.returned (.string str)/\lst str=l/\Sat E I ms w':=by
 obtain ⟨p,v,rfl,hp,hO⟩:=hB;have hn0:l.length≠0:=by simpa using h0
 rcases hO.2 with ⟨rfl,hz,_⟩|⟨g,cap,cur,rfl,rfl,hnc,hcm,hcs,htake⟩
 . exact absurd hz hn0
 have hSD:∀ w,(Builtin.unsafeSliceData_ #[68] 131 #[.slice (some ⟨g,0,none⟩) l.length cap]).run Tryz.prog w=.ok (.pointer (some ⟨g,0,none⟩)) w:=fun w=>Lib.run_unsafeSliceData_row _ _ _ _ _ _ (by omega)
 let bl:List UInt8:=l.map Nat.toUInt8
 have hbl:bl.length=l.length:=by simp [bl]
 have hUS:∀ w:World,w.heap[g]?=some (.cells cur 5 (0,0))->(Builtin.unsafeString_ #[131,3] 9 #[.pointer (some ⟨g,0,none⟩),.int .i64 l.length]).run Tryz.prog w=.ok (.string ⟨bl.toArray⟩) (w.freeze ⟨g,0,none⟩ l.length):=by
  intro w hg;rw [<- hbl];refine Lib.run_unsafeString_row w 131 3 9 5 Tryz.underlying131 (by kernel_rfl) g cur.size (by simp [World.shape?,hg]) bl (by intro h;rw [h] at hbl;exact hn0 hbl.symm) (by omega) (by omega) ?_;intro j x hx;have hj:j<l.length:=by rw [<- hbl];exact (yE.1 hx).1
  have h2:(⟨g,0,none⟩:Addr).add j=⟨g,j,none⟩:=by
   unfold Addr.add;by_cases h0:j=0 <;> simp [h0]
  have h3:w.cell? ⟨g,j,none⟩=cur[j]?:=cell_of_row w g j cur 5 (0,0) hg;have h4:cur[j]?=(bcells l)[j]?:=by
   rw [<- htake,jG,kIa hj];simp
  rw [h2];show w.cell? ⟨g,j,none⟩=_
  rw [h3,h4];have hlj:=yA hj;simp only [bl,jNb,hlj,Option.map_some,jEb] at hx;subst hx;have h5:=h8 _ (kKa hj);unfold bcells;rw [jNb,hlj];simp only [Option.map_some,Nat.toUInt8,UInt8.toNat_ofNat'];congr 2
  omega
 have hlst:lst ⟨bl.toArray⟩=l:=by
  unfold lst;show (bl.toArray.toList).map UInt8.toNat=l
  simp only [bl,jW];refine (jWb fun c hc=>?_).trans (List.map_id l)
  have:=h8 c hc;simp only [Function.comp,Nat.toUInt8,UInt8.toNat_ofNat'];simp only [id];omega
 generalize (⟨bl.toArray⟩:ByteArray)=str at *
 clear_value bl
 clear hbl;go_enter Tryz.func29,Tryz.ntmps29;go_wp2_with fail
 refine region_ogZ (fun _ _=>False) [[],[0],[0,1],[0,1,2],[0,1,2,3],[],[5],[5,6],[5,6,7],[5,6,7,8],[0,1,2,3,4,5,6,7,8,9],[0,1,2,3,4,5,6,7,8,9,10]] E I [] _ (Facts [fun v _=>v=.pointer (some ⟨X,0,none⟩),fun v _=>v=.pointer (some ⟨X,0,none⟩),fun v _=>v=.pointer (some ⟨X,1,none⟩),fun v _=>v=.slice (some ⟨g,0,none⟩) l.length cap,fun v _=>v=.pointer (some ⟨g,0,none⟩),fun v _=>v=.pointer (some ⟨X,0,none⟩),fun v _=>v=.pointer (some ⟨X,0,none⟩),fun v _=>v=.pointer (some ⟨X,1,none⟩),fun v _=>v=.slice (some ⟨g,0,none⟩) l.length cap,fun v _=>v=.int .i64 (l.length:Int),fun v _=>v=.string str,fun v _=>v=.string str]) (fun L _ _ ns=>ns=PH.one X (.cells #[.pointer p,.slice (some ⟨g,0,none⟩) l.length cap] 70)::(if L 10=true then ms else PH.one g (.cells cur 5 (0,0))::ms)) (by kernel_rfl) (by kernel_rfl) hS (by simp) ?mono ?step (fun _ _ _ _ h=>h.elim) ?fin
 case mono =>
  refine fun i v I J hJ=>Facts.lasting ?_ i v I J hJ
  exact bL
 case step =>
  intro i hi L vals J ns w' hLi hdown hanc hJ hS hns;subst hns;have hi8:i=0\/i=1\/i=2\/i=3\/i=4\/i=5\/i=6\/i=7\/i=8\/i=9\/i=10\/i=11:=by simp at hi;omega
  rcases hi8 with rfl|rfl|rfl|rfl|rfl|rfl|rfl|rfl|rfl|rfl|rfl|rfl
  . simp only [Qb,Qe,Qf,zI];refine Qo (fun K hK=>?_);have HK1:=yH hK;clear hK;rw [jAa (by rfl)]
    go_wp2_with fail
    refine HK1.out _ _ ⟨rfl,J,_,PH.le.refl _,hS,?_,?_⟩
    . simp only [Facts,Qh,zI,zD,zC,zA,zB,zJ]
    . simp [upd]
  . have h0:=(hanc 0 (by decide)).2
    simp only [Facts,zI] at h0;simp only [Qb,Qe,Qd,Qf,zH,zI,zB,zK,jC,Act.put,zE,zF,zG,h0];refine Qo (fun K hK=>?_);have HK1:=yH hK;clear hK;rw [jAa (by rfl)]
    go_wp2_with fail
    refine HK1.out _ _ ⟨rfl,J,_,PH.le.refl _,hS,?_,?_⟩
    . simp only [Facts,Qh,zH,zI,zD,zC,zA,zB,zJ]
    . simp [upd]
  . have h1:=(hanc 1 (by decide)).2
    simp only [Facts,zH,zI] at h1;simp only [Qb,Qe,Qd,Qf,zH,zI,zA,zB,zK,jC,Act.put,zE,zF,zG,h1];refine Qo (fun K hK=>?_);have HK1:=yH hK;clear hK;rw [jAa (by rfl)]
    go_wp2_with fail
    refine HK1.out _ _ ⟨rfl,J,_,PH.le.refl _,hS,?_,?_⟩
    . simp only [Facts,Qh,zH,zI,zD,zC,zA,zB,zJ]
    . simp [upd]
  . have h2:=(hanc 2 (by decide)).2
    simp only [Facts,zH,zI] at h2;have l10:L 10=false:=by
     cases h:L 10 with
     | false=>rfl
     | true=>have:=hdown 10 (by decide) h 3 (by decide);rw [hLi] at this;cases this
    rw [l10] at hS;simp only [jE,jS,List.nil_append] at hS;simp only [Qb,Qe,Qd,Qf,zH,zI,zA,zB,zK,jC,Act.put,zE,zF,zG,h2];refine Qo (fun K hK=>?_);have HK1:=yH hK;clear hK;rw [jAa (by rfl)]
    (with_reducible refine Yg ?_)
    refine wp_ldo1 (X:=X) (c := #[.pointer p,.slice (some ⟨g,0,none⟩) l.length cap]) hS (jDb (i:=0) rfl) ty_agg68 rfl rfl ?_;refine HK1.out _ _ ⟨rfl,J,_,PH.le.refl _,hS,?_,?_⟩
    . simp only [Facts,Qh,zH,zI,Act.put,zE,zF,zG,zD,zC,zA,zB,zJ]
    . simp [upd,l10]
  . have h3:=(hanc 3 (by decide)).2
    simp only [Facts,zH,zI] at h3;have hSD:=hSD w';simp only [Qb,Qe,Qd,Qf,zH,zI,zA,zB,zK,jC,Act.put,zE,zF,zG,h3];refine Qo (fun K hK=>?_);have HK1:=yH hK;clear hK;rw [jAa (by rfl)]
    go_wp2_with fail
    refine HK1.out _ _ ⟨rfl,J,_,PH.le.refl _,hS,?_,?_⟩
    . simp only [Facts,Qh,zH,zI,zD,zC,zA,zB,zJ]
    . simp [upd]
  . simp only [Qb,Qe,Qd,Qf,zH,zI,zA,zB,zK,jC,Act.put,zE,zF,zG];refine Qo (fun K hK=>?_);have HK1:=yH hK;clear hK;rw [jAa (by rfl)]
    go_wp2_with fail
    refine HK1.out _ _ ⟨rfl,J,_,PH.le.refl _,hS,?_,?_⟩
    . simp only [Facts,Qh,zH,zI,zD,zC,zA,zB,zJ]
    . simp [upd]
  . have h5:=(hanc 5 (by decide)).2
    simp only [Facts,zH,zI] at h5;simp only [Qb,Qe,Qd,Qf,zH,zI,zA,zB,zK,jC,Act.put,zE,zF,zG,h5];refine Qo (fun K hK=>?_);have HK1:=yH hK;clear hK;rw [jAa (by rfl)]
    go_wp2_with fail
    refine HK1.out _ _ ⟨rfl,J,_,PH.le.refl _,hS,?_,?_⟩
    . simp only [Facts,Qh,zH,zI,zD,zC,zA,zB,zJ]
    . simp [upd]
  . have h6:=(hanc 6 (by decide)).2
    simp only [Facts,zH,zI] at h6;simp only [Qb,Qe,Qd,Qf,zH,zI,zA,zB,zK,jC,Act.put,zE,zF,zG,h6];refine Qo (fun K hK=>?_);have HK1:=yH hK;clear hK;rw [jAa (by rfl)]
    go_wp2_with fail
    refine HK1.out _ _ ⟨rfl,J,_,PH.le.refl _,hS,?_,?_⟩
    . simp only [Facts,Qh,zH,zI,zD,zC,zA,zB,zJ]
    . simp [upd]
  . have h7:=(hanc 7 (by decide)).2
    simp only [Facts,zH,zI] at h7;have l10:L 10=false:=by
     cases h:L 10 with
     | false=>rfl
     | true=>have:=hdown 10 (by decide) h 8 (by decide);rw [hLi] at this;cases this
    rw [l10] at hS;simp only [jE,jS,List.nil_append] at hS;simp only [Qb,Qe,Qd,Qf,zH,zI,zA,zB,zK,jC,Act.put,zE,zF,zG,h7];refine Qo (fun K hK=>?_);have HK1:=yH hK;clear hK;rw [jAa (by rfl)]
    (with_reducible refine Yg ?_)
    refine wp_ldo1 (X:=X) (c := #[.pointer p,.slice (some ⟨g,0,none⟩) l.length cap]) hS (jDb (i:=0) rfl) ty_agg68 rfl rfl ?_;refine HK1.out _ _ ⟨rfl,J,_,PH.le.refl _,hS,?_,?_⟩
    . simp only [Facts,Qh,zH,zI,Act.put,zE,zF,zG,zD,zC,zA,zB,zJ]
    . simp [upd,l10]
  . have h8:=(hanc 8 (by decide)).2
    simp only [Facts,zH,zI] at h8;simp only [Qb,Qe,Qd,Qf,zH,zI,zA,zB,zK,jC,Act.put,zE,zF,zG,h8];refine Qo (fun K hK=>?_);have HK1:=yH hK;clear hK;rw [jAa (by rfl)]
    go_wp2_with fail
    refine HK1.out _ _ ⟨rfl,J,_,PH.le.refl _,hS,?_,?_⟩
    . simp only [Facts,Qh,zH,zI,zD,zC,zA,zB,zJ]
    . simp [upd]
  . have h4:=(hanc 4 (by decide)).2
    simp only [Facts,zH,zI] at h4;have h9:=(hanc 9 (by decide)).2;simp only [Facts,zH,zI] at h9;rw [hLi] at hS;simp only [jE,jS,List.nil_append] at hS;have hUS:=hUS w' (hS.own _ (.tail _ (.head _)) g _ (PH.one_self _ _));simp only [Qb,Qe,Qd,Qf,zH,zI,zA,zB,zK,jC,Act.put,zE,zF,zG,h4,h9];refine Qo (fun K hK=>?_);have HK1:=yH hK;clear hK;rw [jAa (by rfl)]
    go_wp2_with fail
    replace hS:Sat E J (PH.one X (.cells #[.pointer p,.slice (some ⟨g,0,none⟩) l.length cap] 70)::ms) (w'.freeze ⟨g,0,none⟩ l.length):=(hS.perm (List.Perm.swap _ _ _)).unsafe l.length;refine HK1.out _ _ ⟨rfl,J,_,PH.le.refl _,hS,?_,?_⟩
    . simp only [Facts,Qh,zH,zI,zD,zC,zA,zB,zJ]
    . simp [upd]
  . have h10:=(hanc 10 (by decide)).2
    simp only [Facts,zH,zI] at h10;simp only [Qb,Qe,Qd,Qf,zH,zI,zA,zB,zK,jC,Act.put,zE,zF,zG,h10];refine Qo (fun K hK=>?_);have HK1:=yH hK;clear hK;rw [jAa (by rfl)]
    go_wp2_with fail
    refine HK1.out _ _ ⟨rfl,J,_,PH.le.refl _,hS,?_,?_⟩
    . simp only [Facts,Qh,zH,zI,zD,zC,zA,zB,zJ]
    . simp [upd]
 case fin =>
  intro vals J ns w hJ hD hS hL;obtain ⟨L,hL,rfl⟩:=hL;rw [hL 10 (by decide),jAa rfl] at hS;have hv:vals 11=.string str:=hD 11 (by decide);simp only [Qb,Qe,Qd,yB,yC,Nat.reduceAdd,zA,zB,zK,jC,Act.put,zE,zF,zG,hv];go_wp2_with fail
  go_ret;exact ⟨_,rfl,hlst,(hS.less hJ).drop⟩
end
section
open Go.RowKit
theorem index_pos (c:UInt8):∀ (s:List UInt8),(Lib.index s [c] = -1/\c ∉ s)\/∃ a b,s=a ++ c::b/\c ∉ a/\Lib.index s [c]=(a.length:Int)
 | []=>.inl ⟨rfl,by simp⟩
 | x::s=>by
   rw [Lib.index_one];have ih:=index_pos c s;rw [Lib.index_one] at ih;unfold Lib.indexByte;by_cases h:x=c
   . subst h
     exact .inr ⟨[],s,rfl,by simp,by simp⟩
   . have hb:(x == c)=false:=by simpa using h
     rw [hb];rcases ih with ⟨e,hn⟩|⟨a,b,rfl,ha,e⟩
     . left
       rw [e];exact ⟨rfl,by simp [hn,Ne.symm h]⟩
     . right
       refine ⟨x::a,b,rfl,by simp [ha,Ne.symm h],?_⟩;rw [e]
       have:¬ ((a.length:Int) == -1)=true:=by simp
       simp only [jE,jS,jAb this,yB];omega
theorem splitK_splC (c:UInt8):∀ (k:Nat) (s:List UInt8),s.count c=k->Lib.splitK [c] 0 k s=Qw c s
 | 0,s,h=>by
   have:c ∉ s:=List.count_eq_zero.1 h;rw [splC_miss c s this];rfl
 | k+1,s,h=>by
   rcases index_pos c s with ⟨_,hn⟩|⟨a,b,rfl,ha,e⟩
   . rw [List.count_eq_zero.2 hn] at h;omega
   . rw [splC_hit c b a ha]
     unfold Lib.splitK
     have:¬ (Lib.index (a ++ c::b) [c] == -1)=true:=by rw [e];simp
     rw [jAb this,e];have e1:(a ++ c::b).take ((a.length:Int).toNat+0)=a:=by simp
     have e2:(a ++ c::b).drop ((a.length:Int).toNat+[c].length)=b:=by simp
     rw [e1,e2,splitK_splC c k b (by rw [List.count_append,List.count_eq_zero.2 ha,List.count_cons_self] at h;omega)]
theorem countB_one (s:ByteArray) (c:UInt8):Lib.countB s ⟨#[c]⟩=s.data.toList.count c:=by
 rw [<- Lib.count_one]
def MaxIn (I:PH):Prop:=∃ m,I.at 0 0=some (.int .i64 m)
theorem MaxIn.le {I J:PH} (h:MaxIn I) (hJ:I.le J):MaxIn J:=h.elim fun m hm=>⟨m,PH.at_le hJ hm⟩
theorem Sat.maxLen_ {E w:World} {I:PH} {ms:List PH} (hS:Sat E I ms w) (h:MaxIn I):∃ m,w.cell? ⟨0,0,none⟩=some (.int .i64 m):=by
 obtain ⟨m,hm⟩:=h;refine ⟨m,?_⟩;unfold PH.at at hm;cases h0:I 0 with
 | none=>rw [h0] at hm;cases hm
 | some ob =>
   have h1:=hS.imm _ _ h0;rw [h0] at hm;cases ob <;> first|(cases hm;done)|(simpa [World.cell?,h1] using hm)
def strs (ps:List ByteArray):Array Value:=(ps.map Value.string).toArray
theorem split_any (E:World) (I:PH) (ms:List PH) (s:ByteArray) (c:UInt8) (w:World) (hI:MaxIn I) (hs:s.size<=70000) (hS:Sat E I ms w) :
  Calls Tryz.prog 21 #[.string s,.string ⟨#[c]⟩] w fun e w'=>∃ (X:Nat) (ps:List ByteArray),e=.returned (.slice (some ⟨X,0,none⟩) ps.length ps.length)/\ps.map lst=Qw c.toNat (lst s)/\Sat E I (PH.one X (.cells (strs ps) 9)::ms) w':=by
 obtain ⟨m,hm⟩:=hS.maxLen_ hI;refine (Any.strings_Split Tryz.splitE.ton146 (by kernel_rfl) s ⟨#[c]⟩ m w (by omega) hm (jBb 1)).mono ?_;rintro e w' ⟨rfl,rfl⟩;have hlen:=Lib.splitB_all ⟨#[c]⟩ (jBb 1) 0 _ s rfl;refine ⟨w.heap.size,Lib.splitB ⟨#[c]⟩ 0 (Lib.countB s ⟨#[c]⟩) s,by rw [hlen],?_,hS.alloc _⟩;have h1:=Lib.splitB_data ⟨#[c]⟩ 0 (Lib.countB s ⟨#[c]⟩) s;have h2:Lib.splitK [c] 0 (Lib.countB s ⟨#[c]⟩) s.data.toList=Qw c s.data.toList:=splitK_splC c _ _ (countB_one s c).symm;have h3:(Lib.splitB ⟨#[c]⟩ 0 (Lib.countB s ⟨#[c]⟩) s).map (·.data.toList)=Qw c s.data.toList:=h1.trans h2;have h4:=jQb (fun l=>l.map (fun p=>p.map UInt8.toNat)) h3;simp only [jW] at h4;exact h4.trans (splC_map c _)
end
end Go.Proofs.YtidamcdklgfogaaGreatDoor
