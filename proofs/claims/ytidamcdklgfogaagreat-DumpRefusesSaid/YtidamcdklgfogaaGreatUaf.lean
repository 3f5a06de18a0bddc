import Derived.Test.YtidamcdklgfogaaGreatUab
set_option linter.unusedVariables false
set_option linter.unusedSimpArgs false
namespace Go.Proofs.YtidamcdklgfogaaGreat
namespace G
structure Nd where
 v:Nat
 lo:Nat
 hi:Nat
 refs:Nat
structure Pl where
 room:Nat
 slots:List (Option Nd)
 free:List Nat
def Pl.nd(p:Pl)(id:Nat):Option Nd:=if id=0 then none else p.slots.getD id none
def many(l:List (Option Nd)):Nat:=(l.filter Option.isSome).length
def Pl.take(p:Pl)(n:Nd):Option (Option (Pl×Nat)) :=
 match p.free.getLast? with
 | some id=>if id≠0/\id<p.slots.length/\(p.slots.getD id none).isNone=true then some (some ({ p with slots:=p.slots.set id (some n),free:=p.free.dropLast },id)) else none
 | none=>if p.room<p.slots.length then some none else some (some ({ p with slots:=p.slots++[some n] },p.slots.length))
def Pl.give(p:Pl)(id:Nat):Pl:=if (p.nd id).isSome then { p with slots:=p.slots.set id none,free:=p.free++[id] } else p
def Pl.put(p:Pl)(id:Nat)(n:Nd):Pl:=if (p.nd id).isSome then { p with slots:=p.slots.set id (some n) } else p
structure Ent where
 lo:Nat
 hi:Nat
 id:Nat
def findT(t:List Ent)(lo hi:Nat):Option Nat:=(t.find? λe=>e.lo==lo&&e.hi==hi).map (·.id)
def putT(t:List Ent)(lo hi id:Nat):List Ent:=match findT t lo hi with|some _=>t|none=>t++[⟨lo,hi,id⟩]
def cutT(t:List Ent)(lo hi:Nat):List Ent:=t.filter λe=>!(e.lo==lo&&e.hi==hi)
def ins(x:Nat):List Nat->List Nat
 | []=>[x]
 | y::l=>if x<=y then x::y::l else y::ins x l
def isort:List Nat->List Nat
 | []=>[]
 | x::l=>ins x (isort l)
structure St where
 vars:List Nat
 lev:List Nat
 pl:Pl
 tabs:List (List Ent)
 cnt:List Nat
 dead:Nat
def flip(e:Nat):Nat:=if e%2=1 then e-1 else e+1
def flipIf(e:Nat)(b:Bool):Nat:=if b then flip e else e
def edge(id:Nat)(not:Bool):Nat:=flipIf (2*id) not
def big:Nat:=4611686018427387904
section
variable(s:St)
def St.nd(id:Nat):Option Nd:=s.pl.nd id
def St.level(v:Int):Int:=if 0<=v/\v<s.lev.length then ((s.lev.getD v.toNat 0:Nat):Int) else -1
def St.is(f:Int):Bool:=decide (0<=f)&&(f.toNat/2==0||(s.nd (f.toNat/2)).isSome)
def St.under(f:Nat)(l:Int):Bool:=f/2==0||match s.nd (f/2) with|some n=>decide (s.level n.v>l)|none=>false
def St.tab(v:Nat):List Ent:=s.tabs.getD v []
def St.add(v lo hi:Nat):Option (Option (St×Nat)) :=
 match s.pl.take ⟨v,lo,hi,0⟩ with
 | none=>none
 | some none=>some none
 | some (some (p,id)) =>
   if v<s.tabs.length/\id<4194304/\s.dead<big then
    some (some ({ s with pl:=p,cnt:=(s.cnt++List.replicate (id+1-s.cnt.length) 0).set id 0,dead:=s.dead+1,tabs:=s.tabs.set v (putT (s.tab v) lo hi id) },id))
   else none
def norm(lo hi:Nat):Nat×Nat×Bool:=if hi%2=1 then (flip lo,flip hi,true) else (lo,hi,false)
def St.mkE(v lo hi:Int):Option (St×Nat×Nat) :=
 if s.level v<0 then some (s,0,9)
 else if !(s.is lo&&s.is hi) then some (s,0,8)
 else if !(s.under lo.toNat (s.level v)&&s.under hi.toNat (s.level v)) then some (s,0,10)
 else if lo=hi then some (s,lo.toNat,0)
 else
  let (l,h,t):=norm lo.toNat hi.toNat
  if v.toNat<s.tabs.length then
   match findT (s.tab v.toNat) l h with
   | some id=>some (s,edge id t,0)
   | none=>match s.add v.toNat l h with
     | none=>none
     | some none=>some (s,0,7)
     | some (some (s',id))=>some (s',edge id t,0)
  else none
def St.at_(f:Nat):Option (Nat×Nat×Nat):=(s.nd (f/2)).map λn=>(n.v,flipIf n.lo (f%2==1),flipIf n.hi (f%2==1))
end
def St.more:Nat->St->Nat->Option St
 | 0,_,_=>none
 | k+1,s,f =>
   if f/2=0 then some s else
   match s.cnt[f/2]? with
   | none=>none
   | some c =>
     if c<big then
      if c=0 then
       if 0<s.dead then
        match s.nd (f/2) with
        | none=>none
        | some n=>match St.more k { s with cnt:=s.cnt.set (f/2) 1,dead:=s.dead-1 } n.lo with
          | none=>none
          | some s'=>St.more k s' n.hi
       else none
      else some { s with cnt:=s.cnt.set (f/2) (c+1) }
     else none
def St.less:Nat->St->Nat->Option St
 | 0,_,_=>none
 | k+1,s,f =>
   if f/2=0 then some s else
   match s.cnt[f/2]? with
   | none=>none
   | some c =>
     if c=0 then none
     else if c=1 then
      if s.dead<big then
       match s.nd (f/2) with
       | none=>none
       | some n=>match St.less k { s with cnt:=s.cnt.set (f/2) 0,dead:=s.dead+1 } n.lo with
         | none=>none
         | some s'=>St.less k s' n.hi
      else none
     else some { s with cnt:=s.cnt.set (f/2) (c-1) }
section
variable(s:St)
def fuel:Nat:=2097152
def St.hold(f:Int):Option (St×Nat) :=
 if !s.is f then some (s,8)
 else match s.nd (f.toNat/2) with
  | none=>some (s,0)
  | some n=>if n.refs<big then (St.more fuel { s with pl:=s.pl.put (f.toNat/2) { n with refs:=n.refs+1 } } f.toNat).map λs'=>(s',0) else none
def St.drop(f:Int):Option (St×Nat) :=
 if !s.is f then some (s,8)
 else match s.nd (f.toNat/2) with
  | none=>some (s,0)
  | some n=>if n.refs=0 then some (s,5) else (St.less fuel { s with pl:=s.pl.put (f.toNat/2) { n with refs:=n.refs-1 } } f.toNat).map λs'=>(s',0)
def St.held(f:Int):Nat:=if !s.is f then 0 else match s.nd (f.toNat/2) with|none=>0|some n=>n.refs
end
def Qn:Nat->List (Option Nd)->List (Nat×Nd)
 | _,[]=>[]
 | i,none::l=>Qn (i+1) l
 | i,some n::l=>(i,n)::Qn (i+1) l
def St.nodes(s:St):List (Nat×Nd):=Qn 1 (s.pl.slots.drop 1)
def St.goneOf(s:St):List (Nat×Nd)->Option (List (Nat×Nd))
 | []=>some []
 | (id,n)::l=>match s.cnt[id]? with
   | none=>none
   | some c=>(s.goneOf l).map λr=>if c=0 then (id,n)::r else r
def St.away(s:St):List (Nat×Nd)->Option St
 | []=>some s
 | (id,n)::l=>if n.v<s.tabs.length then St.away { s with tabs:=s.tabs.set n.v (cutT (s.tab n.v) n.lo n.hi),pl:=s.pl.give id } l else none
def St.collect(s:St):Option (St×Nat) :=
 if s.dead=0 then some (s,0)
 else match s.goneOf s.nodes with
  | none=>none
  | some g=>(s.away g).map λs'=>({ s' with dead:=0 },g.length)
def St.split(s:St)(f v:Nat):Nat×Nat:=match s.at_ f with|none=>(f,f)|some (w,a,b)=>if w=v then (a,b) else (f,f)
structure Td where
 id:Nat
 n:Nd
 ll:Nat
 lh:Nat
 hl:Nat
 hh:Nat
def St.turnOf(s:St)(y:Nat):List Nat->Option (List Td)
 | []=>some []
 | id::l=>match s.nd id with
   | none=>none
   | some n=>(s.turnOf y l).map λr =>
     if (s.split n.lo y).1≠(s.split n.lo y).2\/(s.split n.hi y).1≠(s.split n.hi y).2 then ⟨id,n,(s.split n.lo y).1,(s.split n.lo y).2,(s.split n.hi y).1,(s.split n.hi y).2⟩::r else r
def St.turn(s:St)(x y:Nat):Option (List Td):=s.turnOf y (isort ((s.tab x).map (·.id)))
def wish(t:List Ent)(q:List (Nat×Nat)×Nat)(k:Nat×Nat):List (Nat×Nat)×Nat :=
 let (a,b,_):=norm k.1 k.2
 if a=b\/(findT t a b).isSome=true\/(q.1.contains (a,b))=true then q else (q.1++[(a,b)],q.2+1)
def St.wants(s:St)(x:Nat)(l:List Td):Nat:=(l.foldl (λq t=>wish (s.tab x) (wish (s.tab x) q (t.ll,t.hl)) (t.lh,t.hh)) ([],0)).2
def St.below(s:St)(x lo hi:Nat):Option (St×Nat) :=
 if lo=hi then some (s,lo)
 else
  let (a,b,t):=norm lo hi
  match findT (s.tab x) a b with
  | some id=>some (s,edge id t)
  | none=>match s.add x a b with
    | some (some (s',id))=>some (s',edge id t)
    | _=>none
def St.flipLev(s:St)(at_:Nat):St :=
 let a:=s.vars.getD at_ 0
 let b:=s.vars.getD (at_+1) 0
 { s with vars:=(s.vars.set at_ b).set (at_+1) a,lev:=(s.lev.set a (at_+1)).set b at_ }
def St.cutAll(s:St)(x:Nat)(l:List Td):St:={ s with tabs:=s.tabs.set x (l.foldl (λt d=>cutT t d.n.lo d.n.hi) (s.tab x)) }
def St.turn1(s:St)(x y:Nat)(t:Td):Option St :=
 (s.below x t.ll t.hl).bind λ(s1,lo) =>
 (s1.below x t.lh t.hh).bind λ(s2,hi) =>
 (St.more fuel s2 lo).bind λs3 =>
 (St.more fuel s3 hi).bind λs4 =>
 (St.less fuel { s4 with pl:=s4.pl.put t.id { t.n with v:=y,lo:=lo,hi:=hi },tabs:=s4.tabs.set y (putT (s4.tab y) lo hi t.id) } t.n.lo).bind λs5 =>
 St.less fuel s5 t.n.hi
def St.turns(s:St)(x y:Nat):List Td->Option St
 | []=>some s
 | t::l=>(s.turn1 x y t).bind λs'=>St.turns s' x y l
def St.swap(s:St)(level:Int):Option (St×Nat) :=
 if level<0\/level≥(s.vars.length:Int)-1 then some (s,2)
 else
  let k:=level.toNat
  s.collect.bind λ(s0,_) =>
  let x:=s0.vars.getD k 0
  let y:=s0.vars.getD (k+1) 0
  (s0.turn x y).bind λl =>
  if s0.pl.room<s0.wants x l+many s0.pl.slots then some (s0,7)
  else (St.turns ((s0.flipLev k).cutAll x l) x y l).bind λs1=>s1.collect.map λ(s2,_)=>(s2,0)
def St.new(vars room:Nat):St:=⟨List.range vars,List.range vars,⟨room,[none],[]⟩,List.replicate vars [],[],0⟩
end G
namespace G
abbrev Gr:=Nat->Option Nd
def ev(G:Gr)(ρ:Nat->Bool):Nat->Nat->Bool
 | 0,e=>e%2==0
 | k+1,e=>match G (e/2) with
   | none=>e%2==0
   | some n=>(e%2==1) ^^ ev G ρ k (if ρ n.v then n.hi else n.lo)
def den(G:Gr)(e:Nat)(ρ:Nat->Bool):Bool:=ev G ρ fuel e
def val(G:Gr)(e:Nat):Prop:=e/2=0\/(G (e/2)).isSome
structure Acyc (G:Gr) (r:Nat->Nat):Prop where
 g0:G 0=none
 top:∀id,r id+2<fuel
 lo:∀id n,G id=some n->val G n.lo/\(n.lo/2≠0->r (n.lo/2)<r id)
 hi:∀id n,G id=some n->val G n.hi/\(n.hi/2≠0->r (n.hi/2)<r id)
def upd(ρ:Nat->Bool)(v:Nat)(b:Bool):Nat->Bool:=λx=>if x=v then b else ρ x
def Indep(φ:(Nat->Bool)->Bool)(v:Nat):Prop:=∀ρ b,φ (upd ρ v b)=φ ρ
theorem Qq(ρ:Nat->Bool)(v:Nat)(b:Bool):upd ρ v b v=b:=by simp[upd]
theorem Qw(ρ:Nat->Bool){v x:Nat}(b:Bool)(h:x≠v):upd ρ v b x=ρ x:=by simp[upd,h]
theorem upd_same(ρ:Nat->Bool)(v:Nat):upd ρ v (ρ v)=ρ:=by funext x;unfold upd;split <;> simp_all
theorem flip_div(e:Nat):flip e/2=e/2:=by unfold flip;split <;> omega
theorem flip_mod(e:Nat):flip e%2=1-e%2:=by unfold flip;split <;> omega
theorem flip_flip(e:Nat):flip (flip e)=e:=by unfold flip;split <;> split <;> omega
theorem flip_inj{e f:Nat}(h:flip e=flip f):e=f:=by rw[<- flip_flip e,h,flip_flip]
theorem Qx(e:Nat)(b:Bool):flipIf e b/2=e/2:=by unfold flipIf;split;exact flip_div e;rfl
theorem flipIf_flipIf(e:Nat)(b c:Bool):flipIf (flipIf e b) c=flipIf e (b ^^ c):=by cases b <;> cases c <;> simp[flipIf,flip_flip]
theorem edge_div(id:Nat)(t:Bool):edge id t/2=id:=by unfold edge;rw[Qx];omega
theorem edge_of(e:Nat):edge (e/2) (e%2==1)=e:=by
 unfold edge flipIf flip;rcases jKa e with h|h
 . simp[h];omega
 . simp[h];omega
theorem val_flip{G:Gr}{e:Nat}:val G (flip e)↔val G e:=by unfold val;rw[flip_div]
theorem val_flipIf{G:Gr}{e:Nat}{b:Bool}:val G (flipIf e b)↔val G e:=by unfold val;rw[Qx]
theorem val_some{G:Gr}{id:Nat}{n:Nd}(h:G id=some n)(b:Bool):val G (edge id b):=by unfold val;rw[edge_div,h];simp
section
variable{G:Gr} {r:Nat->Nat}
theorem Acyc.kid(h:Acyc G r){id:Nat}{n:Nd}(hn:G id=some n)(b:Bool):val G (if b then n.hi else n.lo)/\((if b then n.hi else n.lo)/2≠0->r ((if b then n.hi else n.lo)/2)<r id):=by
 cases b
 . exact h.lo id n hn
 . exact h.hi id n hn
theorem Ye{e:Nat}(h:G (e/2)=none)(ρ:Nat->Bool)(k:Nat):ev G ρ k e=(e%2==0):=by
 cases k with
 | zero=>rfl
 | succ k=>simp[ev,h]
theorem ev_fuel(h:Acyc G r)(ρ:Nat->Bool):∀(b:Nat) (e:Nat),r (e/2)<b->∀k l,r (e/2)<k->r (e/2)<l->ev G ρ k e=ev G ρ l e:=by
 intro b
 induction b with
 | zero=>intro e hb;omega
 | succ b ih =>
   intro e hb k l hk hl;cases hn:G (e/2) with
   | none=>rw[Ye hn,Ye hn]
   | some n =>
     obtain⟨k,rfl⟩:∃j,k=j+1:=⟨k-1,by omega⟩;obtain⟨l,rfl⟩:∃j,l=j+1:=⟨l-1,by omega⟩;simp only[ev,hn];congr 1
     have hc:=(h.kid hn (ρ n.v)).2;generalize (if ρ n.v=true then n.hi else n.lo)=c at *
     by_cases h0:c/2=0
     . rw[Ye (by rw[h0];exact h.g0),Ye (by rw[h0];exact h.g0)]
     . have:=hc h0
       exact ih c (by omega) k l (by omega) (by omega)
theorem ev_some{e k:Nat}{n:Nd}(h:G (e/2)=some n)(ρ:Nat->Bool):ev G ρ (k+1) e=((e%2==1) ^^ ev G ρ k (if ρ n.v then n.hi else n.lo)):=by simp only[ev,h]
theorem Xy(h:Acyc G r){e:Nat}{n:Nd}(hn:G (e/2)=some n)(ρ:Nat->Bool):den G e ρ=((e%2==1) ^^ den G (if ρ n.v then n.hi else n.lo) ρ):=by
 unfold den;have ht:=h.top (e/2);generalize fuel=F at *
 obtain⟨F,rfl⟩:∃j,F=j+1:=⟨F-1,by omega⟩;rw[ev_some hn];refine jNa _ ?_;have hc:=(h.kid hn (ρ n.v)).2;generalize (if ρ n.v=true then n.hi else n.lo)=c at *
 by_cases h0:c/2=0
 . rw[Ye (by rw[h0];exact h.g0),Ye (by rw[h0];exact h.g0)]
 . have:=hc h0
   exact ev_fuel h ρ F c (by omega) _ _ (by omega) (by omega)
theorem Qp(g0:G 0=none){e:Nat}(h:e/2=0)(ρ:Nat->Bool):den G e ρ=(e%2==0):=Ye (by rw[h];exact g0) ρ _
theorem den_flip(G:Gr)(e:Nat)(ρ:Nat->Bool):den G (flip e) ρ=!den G e ρ:=by
 unfold den;rw[show fuel=(fuel-1)+1 from rfl];have hm:=flip_mod e;simp only[ev,flip_div];cases G (e/2) with
 | none=>rcases jKa e with h|h <;> simp[h,hm]
 | some n =>
   simp only;generalize ev G ρ _ _=x;rcases jKa e with h|h <;> cases x <;> simp[h,hm]
theorem Ke(G:Gr)(e:Nat)(b:Bool)(ρ:Nat->Bool):den G (flipIf e b) ρ=(b ^^ den G e ρ):=by
 cases b
 . simp[flipIf]
 . simp[flipIf,den_flip]
theorem Ka(G:Gr)(id:Nat)(b:Bool)(ρ:Nat->Bool):den G (edge id b) ρ=(b ^^ den G (2*id) ρ):=Ke G (2*id) b ρ
theorem den_id(h:Acyc G r){id:Nat}{n:Nd}(hn:G id=some n)(ρ:Nat->Bool):den G (2*id) ρ=den G (if ρ n.v then n.hi else n.lo) ρ:=by
 have h2:2*id/2=id:=by omega
 rw[Xy h (by rw[h2];exact hn)];simp
theorem den_eq{G':Gr}{r':Nat->Nat}(h:Acyc G r)(h':Acyc G' r')
  (hs:∀id n,G id=some n->(∃n',G' id=some n'/\n'.v=n.v/\n'.lo=n.lo/\n'.hi=n.hi)\/∀ρ,den G' (2*id) ρ=den G (2*id) ρ) :
  ∀(b e:Nat),r (e/2)<b->val G e->∀ρ,den G' e ρ=den G e ρ:=by
 intro b
 induction b with
 | zero=>intro e hb;omega
 | succ b ih =>
   intro e hb hv ρ;by_cases h0:e/2=0
   . rw[Qp h.g0 h0,Qp h'.g0 h0]
   . obtain⟨n,hn⟩:=yF.1 (hv.resolve_left h0)
     rcases hs _ n hn with⟨n',hn',e1,e2,e3⟩|he
     . rw[Xy h hn,Xy h' hn',e1,e2,e3]
       congr 1
       have hk:=h.kid hn (ρ n.v);generalize (if ρ n.v=true then n.hi else n.lo)=c at *
       by_cases hc0:c/2=0
       . rw[Qp h.g0 hc0,Qp h'.g0 hc0]
       . exact ih c (by have:=hk.2 hc0;omega) hk.1 ρ
     . have:=he ρ
       rw[<- edge_of e,Ka,Ka,this]
def sub(G G':Gr):Prop:=∀id n,G id=some n->∃n',G' id=some n'/\n'.v=n.v/\n'.lo=n.lo/\n'.hi=n.hi
theorem den_sub{G':Gr}{r':Nat->Nat}(h:Acyc G r)(h':Acyc G' r')(hs:sub G G'){e:Nat}(hv:val G e)(ρ:Nat->Bool):den G' e ρ=den G e ρ :=
 den_eq h h' (λid n hn=>.inl (hs id n hn)) (r (e/2)+1) e (by omega) hv ρ
theorem val_sub{G':Gr}(hs:sub G G'){e:Nat}(hv:val G e):val G' e:=by
 rcases hv with h|h
 . exact .inl h
 . obtain⟨n,hn⟩:=yF.1 h
   obtain⟨n',hn',_⟩:=hs _ n hn;exact .inr (by rw[hn'];rfl)
end
structure Can (G:Gr) (r:Nat->Nat):Prop extends Acyc G r where
 even:∀id n,G id=some n->n.hi%2=0
 ne:∀id n,G id=some n->n.lo≠n.hi
 can:∀e f,val G e->val G f->(∀ρ,den G e ρ=den G f ρ)->e=f
 indl:∀id n,G id=some n->Indep (den G n.lo) n.v
 indh:∀id n,G id=some n->Indep (den G n.hi) n.v
def ite3(v:Nat)(f g:(Nat->Bool)->Bool):(Nat->Bool)->Bool:=λρ=>if ρ v then f ρ else g ρ
theorem Yh{v:Nat}{f g:(Nat->Bool)->Bool}(hf:Indep f v)(ρ:Nat->Bool):ite3 v f g (upd ρ v true)=f ρ:=by unfold ite3;rw[Qq];simp[hf ρ true]
theorem Xj{v:Nat}{f g:(Nat->Bool)->Bool}(hg:Indep g v)(ρ:Nat->Bool):ite3 v f g (upd ρ v false)=g ρ:=by unfold ite3;rw[Qq];simp[hg ρ false]
theorem Indep.ite3{v x:Nat}{f g:(Nat->Bool)->Bool}(hf:Indep f x)(hg:Indep g x)(h:x≠v):Indep (ite3 v f g) x:=by
 intro ρ b;unfold G.ite3;rw[Qw _ _ (Ne.symm h),hf ρ b,hg ρ b]
theorem Indep.flipIf{G:Gr}{e x:Nat}{b:Bool}(h:Indep (den G e) x):Indep (den G (flipIf e b)) x:=λρ c=>by rw[Ke,Ke,h ρ c]
section
variable{G:Gr} {r:Nat->Nat}
theorem Xc(h:Acyc G r){id:Nat}{n:Nd}(hn:G id=some n):den G (2*id)=ite3 n.v (den G n.hi) (den G n.lo):=by
 funext ρ
 rw[den_id h hn];unfold ite3;split <;> rfl
theorem Can.dep(h:Can G r){id:Nat}{n:Nd}(hn:G id=some n)(b:Bool):¬Indep (den G (edge id b)) n.v:=by
 intro hi;refine h.ne id n hn (h.can _ _ (h.lo id n hn).1 (h.hi id n hn).1 λρ=>?_);have hi:Indep (den G (2*id)) n.v:=λρ c=>by
  have:=hi ρ c;rw[Ka,Ka] at this;cases b <;> simpa using this
 have e1:=hi ρ true;have e2:=hi ρ false;rw[Xc h.toAcyc hn,Yh (h.indh id n hn)] at e1;rw[Xc h.toAcyc hn,Xj (h.indl id n hn)] at e2;rw[e1,e2]
theorem Can.same_var(h:Can G r){id:Nat}{n:Nd}(hn:G id=some n){b:Bool}{l k:Nat}(hl:val G l)(hk:val G k)(hke:k%2=0)(il:Indep (den G l) n.v)(ik:Indep (den G k) n.v)
  (he:∀ρ,den G (edge id b) ρ=ite3 n.v (den G k) (den G l) ρ):b=false/\n.lo=l/\n.hi=k:=by
 have e1:∀ρ,den G (flipIf n.hi b) ρ=den G k ρ:=λρ=>by
  have:=he (upd ρ n.v true);rw[Yh ik,Ka,Xc h.toAcyc hn,Yh (h.indh id n hn)] at this;rw[Ke,this]
 have e2:∀ρ,den G (flipIf n.lo b) ρ=den G l ρ:=λρ=>by
  have:=he (upd ρ n.v false);rw[Xj il,Ka,Xc h.toAcyc hn,Xj (h.indl id n hn)] at this;rw[Ke,this]
 have h1:=h.can _ _ (val_flipIf.2 (h.hi id n hn).1) hk e1;have h2:=h.can _ _ (val_flipIf.2 (h.lo id n hn).1) hl e2;have hev:=h.even id n hn;have hb:b=false:=by
  cases b
  . rfl
  . have:=flip_mod n.hi
    simp only[flipIf,jEb] at h1;rw[h1] at this;omega
 subst hb;exact⟨rfl,by simpa[flipIf] using h2,by simpa[flipIf] using h1⟩
def Xq(G:Gr)(id:Nat)(n:Nd):Gr:=λi=>if i=id then some n else G i
theorem Qm(G:Gr)(id:Nat)(n:Nd):Xq G id n id=some n:=by simp[Xq]
theorem Qr(G:Gr){id i:Nat}(n:Nd)(h:i≠id):Xq G id n i=G i:=by simp[Xq,h]
theorem sub_addN{id:Nat}{n:Nd}(h:G id=none):sub G (Xq G id n):=λi m hm=>⟨m,by rw[Qr _ _ (by rintro rfl;rw[h] at hm;cases hm)];exact hm,rfl,rfl,rfl⟩
theorem Can.add(h:Can G r){id:Nat}{n:Nd}(hid:id≠0)(hG:G id=none)(hl:val G n.lo)(hh:val G n.hi)(hev:n.hi%2=0)(il:Indep (den G n.lo) n.v)(ih:Indep (den G n.hi) n.v)(hne:n.lo≠n.hi)
  {r':Nat->Nat}(hr:∀i,G i≠none->r' i=r i)(ht2:∀i,r' i+2<fuel)(rl:n.lo/2≠0->r (n.lo/2)<r' id)(rh:n.hi/2≠0->r (n.hi/2)<r' id)
  (hnew:∀i m b,G i=some m->¬ ∀ρ,den G (edge i b) ρ=ite3 n.v (den G n.hi) (den G n.lo) ρ):Can (Xq G id n) r'/\∀e,val G e->∀ρ,den (Xq G id n) e ρ=den G e ρ:=by
 have hs:=sub_addN (n:=n) hG;have vne:∀{e},val G e->e/2≠0->r' (e/2)=r (e/2):=λhv h0=>hr _ (by have:=hv.resolve_left h0;intro hc;rw[hc] at this;cases this)
 have ac:Acyc (Xq G id n) r':=by
  refine⟨by rw[Qr _ _ (Ne.symm hid)];exact h.g0,ht2,λi m hm=>?_,λi m hm=>?_⟩
  . by_cases hi:i=id
    . subst hi
      rw[Qm] at hm;cases hm;exact⟨val_sub hs hl,λh0=>by rw[vne hl h0];exact rl h0⟩
    . rw[Qr _ _ hi] at hm
      obtain⟨h1,h2⟩:=h.lo i m hm;exact⟨val_sub hs h1,λh0=>by rw[vne h1 h0,hr i (by rw[hm];simp)];exact h2 h0⟩
  . by_cases hi:i=id
    . subst hi
      rw[Qm] at hm;cases hm;exact⟨val_sub hs hh,λh0=>by rw[vne hh h0];exact rh h0⟩
    . rw[Qr _ _ hi] at hm
      obtain⟨h1,h2⟩:=h.hi i m hm;exact⟨val_sub hs h1,λh0=>by rw[vne h1 h0,hr i (by rw[hm];simp)];exact h2 h0⟩
 have hd:∀e,val G e->∀ρ,den (Xq G id n) e ρ=den G e ρ:=λe hv ρ=>den_sub h.toAcyc ac hs hv ρ
 have hdf:∀e,val G e->den (Xq G id n) e=den G e:=λe hv=>funext (hd e hv)
 have hself:den (Xq G id n) (2*id)=ite3 n.v (den G n.hi) (den G n.lo):=by rw[Xc ac (Qm G id n),hdf _ hl,hdf _ hh]
 have split:∀e,val (Xq G id n) e->val G e\/e=edge id (e%2==1):=λe hv=>by
  by_cases he:e/2=id
  . right;rw[<- he];exact (edge_of e).symm
  . left
    rcases hv with h0|h0
    . exact .inl h0
    . rw[Qr _ _ he] at h0;exact .inr h0
 have key:∀e,val G e->∀b,¬ ∀ρ,den (Xq G id n) e ρ=den (Xq G id n) (edge id b) ρ:=by
  intro e hv b hall;have hall:∀ρ,den G e ρ=(b ^^ ite3 n.v (den G n.hi) (den G n.lo) ρ):=λρ=>by rw[<- hd e hv,hall ρ,Ka,hself]
  by_cases h0:e/2=0
  . refine hne (h.can _ _ hl hh λρ=>?_)
    have e1:=hall (upd ρ n.v true);have e2:=hall (upd ρ n.v false);rw[Yh ih,Qp h.g0 h0] at e1;rw[Xj il,Qp h.g0 h0] at e2;rw[e1] at e2;cases b <;> simpa using e2.symm
  . obtain⟨m,hm⟩:=yF.1 (hv.resolve_left h0)
    refine hnew _ m ((e%2==1) ^^ b) hm λρ=>?_
    have:=hall ρ;rw[<- edge_of e,Ka] at this;rw[Ka];generalize den G _ ρ=x at *
    generalize ite3 n.v _ _ ρ=y at *
    generalize (e%2==1)=c at *
    cases b <;> cases c <;> cases x <;> cases y <;> simp_all
 refine⟨{ toAcyc:=ac,even:=λi m hm=>?_,ne:=λi m hm=>?_,can:=λe f he hf hall=>?_,indl:=λi m hm=>?_,indh:=λi m hm=>?_ },hd⟩
 . by_cases hi:i=id
   . subst hi;rw[Qm] at hm;cases hm;exact hev
   . rw[Qr _ _ hi] at hm;exact h.even i m hm
 . by_cases hi:i=id
   . subst hi;rw[Qm] at hm;cases hm;exact hne
   . rw[Qr _ _ hi] at hm;exact h.ne i m hm
 . rcases split e he with h1|h1 <;> rcases split f hf with h2|h2
   . exact h.can e f h1 h2 λρ=>by rw[<- hd e h1,<- hd f h2,hall ρ]
   . rw[h2] at hall;exact absurd hall (key e h1 _)
   . rw[h1] at hall;exact absurd (λρ=>(hall ρ).symm) (key f h2 _)
   . rw[h1,h2]
     have:=hall (λ_=>true);rw[h1,h2,Ka,Ka] at this;congr 1
     generalize (e%2==1)=c at *
     generalize (f%2==1)=d at *
     revert this
     generalize den _ _ _=x;cases c <;> cases d <;> cases x <;> simp
 . by_cases hi:i=id
   . subst hi;rw[Qm] at hm;cases hm;rw[hdf _ hl];exact il
   . rw[Qr _ _ hi] at hm;rw[hdf _ (h.lo i m hm).1];exact h.indl i m hm
 . by_cases hi:i=id
   . subst hi;rw[Qm] at hm;cases hm;rw[hdf _ hh];exact ih
   . rw[Qr _ _ hi] at hm;rw[hdf _ (h.hi i m hm).1];exact h.indh i m hm
end
end G
namespace G
structure Ord (G:Gr) (lv:Nat->Nat) (c:Nat):Prop where
 lo:∀id n,G id=some n->c<=lv n.v->∀m,G (n.lo/2)=some m->lv n.v<lv m.v
 hi:∀id n,G id=some n->c<=lv n.v->∀m,G (n.hi/2)=some m->lv n.v<lv m.v
theorem indep_const{G:Gr}(g0:G 0=none){e:Nat}(h:e/2=0)(v:Nat):Indep (den G e) v:=λρ b=>by rw[Qp g0 h,Qp g0 h]
theorem Ord.indep{G:Gr}{r lv:Nat->Nat}{c:Nat}(ho:Ord G lv c)(h:Acyc G r):∀(b e:Nat),r (e/2)<b->val G e->(∀m,G (e/2)=some m->c<=lv m.v)->∀v,(∀m,G (e/2)=some m->lv v<lv m.v)->Indep (den G e) v:=by
 intro b
 induction b with
 | zero=>intro e hb;omega
 | succ b ih =>
   intro e hb hv hc v hlt;by_cases h0:e/2=0
   . exact indep_const h.g0 h0 v
   . obtain⟨n,hn⟩:=yF.1 (hv.resolve_left h0)
     have hcn:=hc n hn;have hvn:=hlt n hn;have il:Indep (den G n.lo) v:=by
      by_cases hc0:n.lo/2=0
      . exact indep_const h.g0 hc0 v
      . have:=(h.lo _ n hn).2 hc0
        exact ih n.lo (by omega) (h.lo _ n hn).1 (λm hm=>by have:=ho.lo _ n hn hcn m hm;omega) v (λm hm=>by have:=ho.lo _ n hn hcn m hm;omega)
     have ihh:Indep (den G n.hi) v:=by
      by_cases hc0:n.hi/2=0
      . exact indep_const h.g0 hc0 v
      . have:=(h.hi _ n hn).2 hc0
        exact ih n.hi (by omega) (h.hi _ n hn).1 (λm hm=>by have:=ho.hi _ n hn hcn m hm;omega) v (λm hm=>by have:=ho.hi _ n hn hcn m hm;omega)
     have hne:v≠n.v:=by rintro rfl;omega
     rw[<- edge_of e];intro ρ x;rw[Ka,Ka,Xc h hn,Indep.ite3 ihh il hne ρ x]
theorem Ord.low{G:Gr}{r lv:Nat->Nat}{c:Nat}(ho:Ord G lv c)(h:Acyc G r){e:Nat}(hv:val G e)(hc:∀m,G (e/2)=some m->c<=lv m.v){v:Nat}(hlt:∀m,G (e/2)=some m->lv v<lv m.v):Indep (den G e) v :=
 ho.indep h _ e (kIb _) hv hc v hlt
theorem Can.no_other{G:Gr}{r:Nat->Nat}(h:Can G r){v l k:Nat}(hl:val G l)(hk:val G k)(hke:k%2=0)(hne:l≠k)(il:Indep (den G l) v)(ik:Indep (den G k) v)
  (ho:∀i m,G i=some m->m.v≠v->(Indep (den G l) m.v/\Indep (den G k) m.v)\/Indep (den G (2*i)) v)
  (hs:∀i m,G i=some m->m.v=v->¬(m.lo=l/\m.hi=k)):∀i m b,G i=some m->¬ ∀ρ,den G (edge i b) ρ=ite3 v (den G k) (den G l) ρ:=by
 intro i m b hm hall;by_cases hv:m.v=v
 . subst hv
   obtain⟨_,h1,h2⟩:=h.same_var hm hl hk hke il ik hall;exact hs i m hm rfl ⟨h1,h2⟩
 . rcases ho i m hm hv with⟨h1,h2⟩|h1
   . refine h.dep hm b ?_
     rw[show den G (edge i b)=ite3 v (den G k) (den G l) from funext hall];exact Indep.ite3 h2 h1 hv
   . refine hne (h.can _ _ hl hk λρ=>?_)
     have i1:Indep (ite3 v (den G k) (den G l)) v:=by
      rw[<- show den G (edge i b)=ite3 v (den G k) (den G l) from funext hall];intro ρ x;rw[Ka,Ka,h1 ρ x]
     have e1:=i1 ρ true;have e2:=i1 ρ false;rw[Yh ik] at e1;rw[Xj il] at e2;rw[e1,e2]
def Kk(f:Nat->Int):Nat->Int
 | 0=>0
 | n+1=>Kk f n+f n
theorem Kn{f g:Nat->Int}:∀{n:Nat},(∀i,i<n->f i=g i)->Kk f n=Kk g n
 | 0,_=>rfl
 | n+1,h=>by unfold Kk;rw[Kn λi hi=>h i (by omega),h n (by omega)]
theorem sumTo_upd{f g:Nat->Int}{j:Nat}:∀{n:Nat},j<n->(∀i,i≠j->g i=f i)->Kk g n=Kk f n+(g j-f j)
 | n+1,hj,h=>by
   unfold Kk;by_cases hn:j=n
   . subst hn
     rw[Kn (f:=g) (g:=f) λi hi=>h i (by omega)];omega
   . rw[sumTo_upd (by omega) h,h n (by omega)]
     omega
theorem sumTo_nonneg{f:Nat->Int}(h:∀i,0<=f i):∀n,0<=Kk f n
 | 0=>Int.le_refl _
 | n+1=>by unfold Kk;have:=sumTo_nonneg h n;have:=h n;omega
theorem sumTo_le{f:Nat->Int}{K:Nat}(h:∀i,f i<=K):∀n:Nat,Kk f n<=((n*K:Nat):Int)
 | 0=>by simp[Kk]
 | n+1=>by
   unfold Kk
   have:=sumTo_le h n
   have:=h n;rw[kIa];omega
theorem sumTo_ge{f:Nat->Int}(h:∀i,0<=f i){j:Nat}:∀{n:Nat},j<n->f j<=Kk f n
 | n+1,hj=>by
   unfold Kk;by_cases hn:j=n
   . subst hn;have:=sumTo_nonneg h j;omega
   . have:=sumTo_ge h (show j<n by omega);have:=h n;omega
theorem sumTo_pos{f:Nat->Int}:∀{n:Nat},0<Kk f n->∃j,j<n/\0<f j
 | n+1,h=>by
   unfold Kk at h;by_cases hp:0<f n
   . exact⟨n,by omega,hp⟩
   . obtain⟨j,h1,h2⟩:=sumTo_pos (f:=f) (n:=n) (by omega)
     exact⟨j,by omega,h2⟩
def Zl(n:Nd)(id:Nat):Int:=(if n.lo/2=id then 1 else 0)+(if n.hi/2=id then 1 else 0)
theorem edgeW_nonneg(n:Nd)(id:Nat):0<=Zl n id:=by unfold Zl;split <;> split <;> omega
theorem edgeW_le(n:Nd)(id:Nat):Zl n id<=(2:Nat):=by unfold Zl;split <;> split <;> omega
def inW(G:Gr)(c:Nat->Nat)(id i:Nat):Int:=match G i with|some n=>if 0<c i then Zl n id else 0|none=>0
def Zy(G:Gr)(c:Nat->Nat)(N id:Nat):Int:=Kk (inW G c id) N
theorem inW_nonneg(G:Gr)(c:Nat->Nat)(id i:Nat):0<=inW G c id i:=by unfold inW;split;split;exact edgeW_nonneg _ _;omega;omega
theorem inW_le(G:Gr)(c:Nat->Nat)(id i:Nat):inW G c id i<=(2:Nat):=by unfold inW;split;split;exact edgeW_le _ _;omega;omega
theorem indeg_nonneg(G:Gr)(c:Nat->Nat)(N id:Nat):0<=Zy G c N id:=sumTo_nonneg (inW_nonneg G c id) N
theorem indeg_le(G:Gr)(c:Nat->Nat)(N id:Nat):Zy G c N id<=((N*2:Nat):Int):=sumTo_le (inW_le G c id) N
def Kc(G:Gr)(c:Nat->Nat)(i:Nat):Int:=if (G i).isSome=true/\c i=0 then 1 else 0
theorem deadW_nonneg(G:Gr)(c:Nat->Nat)(i:Nat):0<=Kc G c i:=by unfold Kc;split <;> omega
theorem deadW_le(G:Gr)(c:Nat->Nat)(i:Nat):Kc G c i<=(1:Nat):=by unfold Kc;split <;> omega
structure RC (G:Gr) (c:Nat->Nat) (N:Nat) (ext:Nat->Int) (dead:Nat):Prop where
 dom:∀id,(G id).isSome=true->id<N
 cnt:∀id,(G id).isSome=true->(c id:Int)=ext id+Zy G c N id
 dead:(dead:Int)=Kk (Kc G c) N
def Qt(ext:Nat->Int)(j:Nat)(d:Int):Nat->Int:=λi=>if i=j then ext i+d else ext i
theorem RC.congr{G:Gr}{c:Nat->Nat}{N:Nat}{ext ext':Nat->Int}{d:Nat}(h:RC G c N ext d)(he:∀i,(G i).isSome=true->ext' i=ext i):RC G c N ext' d :=
 ⟨h.dom,λid hid=>by rw[he id hid];exact h.cnt id hid,h.dead⟩
def Zg(c:Nat->Nat)(j x:Nat):Nat->Nat:=λi=>if i=j then x else c i
section
variable{G:Gr} {c:Nat->Nat} {N:Nat} {ext:Nat->Int} {d:Nat}
theorem RC.stay(h:RC G c N ext d){j x:Nat}(hc:0<c j)(hx:0<x):RC G (Zg c j x) N (Qt ext j ((x:Int)-c j)) d:=by
 have hin:∀id,Zy G (Zg c j x) N id=Zy G c N id:=λid=>Kn λi _=>by
  unfold inW Zg;by_cases hi:i=j
  . subst hi;simp[hc,hx]
  . simp[hi]
 refine⟨h.dom,λid hid=>?_,?_⟩
 . rw[hin]
   have:=h.cnt id hid;unfold Zg Qt;split
   . rename_i e;subst e;omega
   . exact this
 . rw[h.dead]
   refine Kn λi _=>?_
   unfold Kc Zg;by_cases hi:i=j
   . subst hi;simp;omega
   . simp[hi]
theorem RC.live(h:RC G c N ext d){j:Nat}{n:Nd}(hn:G j=some n)(hc:c j=0):0<d/\RC G (Zg c j 1) N (Qt (Qt (Qt ext j 1) (n.lo/2) (-1)) (n.hi/2) (-1)) (d-1):=by
 have hj:=h.dom j (by rw[hn];rfl);have hin:∀id,Zy G (Zg c j 1) N id=Zy G c N id+Zl n id:=λid=>by
  unfold Zy;rw[sumTo_upd (j:=j) (f:=inW G c id) hj λi hi=>by unfold inW Zg;simp[hi]];have e1:inW G (Zg c j 1) id j=Zl n id:=by unfold inW Zg;simp[hn]
  have e2:inW G c id j=0:=by unfold inW;simp[hn,hc]
  rw[e1,e2];omega
 have hd:Kk (Kc G (Zg c j 1)) N=Kk (Kc G c) N-1:=by
  rw[sumTo_upd (j:=j) (f:=Kc G c) hj λi hi=>by unfold Kc Zg;simp[hi]];have e1:Kc G (Zg c j 1) j=0:=by unfold Kc Zg;simp
  have e2:Kc G c j=1:=by unfold Kc;simp[hn,hc]
  omega
 have hd0:0<d:=by
  have h1:=h.dead;have h2:=sumTo_ge (deadW_nonneg G c) hj;have e2:Kc G c j=1:=by unfold Kc;simp[hn,hc]
  omega
 refine⟨hd0,h.dom,λid hid=>?_,?_⟩
 . rw[hin]
   have:=h.cnt id hid;unfold Zg Qt Zl;by_cases h1:id=j
   . subst h1
     rw[hc] at this
     grind
   . grind
 . rw[hd,<- h.dead];omega
theorem RC.die(h:RC G c N ext d){j:Nat}{n:Nd}(hn:G j=some n)(hc:c j=1):RC G (Zg c j 0) N (Qt (Qt (Qt ext j (-1)) (n.lo/2) 1) (n.hi/2) 1) (d+1):=by
 have hj:=h.dom j (by rw[hn];rfl);have hin:∀id,Zy G (Zg c j 0) N id=Zy G c N id-Zl n id:=λid=>by
  unfold Zy;rw[sumTo_upd (j:=j) (f:=inW G c id) hj λi hi=>by unfold inW Zg;simp[hi]];have e1:inW G (Zg c j 0) id j=0:=by unfold inW Zg;simp[hn]
  have e2:inW G c id j=Zl n id:=by unfold inW;simp[hn,hc]
  rw[e1,e2];omega
 have hd:Kk (Kc G (Zg c j 0)) N=Kk (Kc G c) N+1:=by
  rw[sumTo_upd (j:=j) (f:=Kc G c) hj λi hi=>by unfold Kc Zg;simp[hi]];have e1:Kc G (Zg c j 0) j=1:=by unfold Kc Zg;simp[hn]
  have e2:Kc G c j=0:=by unfold Kc;simp[hc]
  omega
 refine⟨h.dom,λid hid=>?_,?_⟩
 . rw[hin]
   have:=h.cnt id hid;unfold Zg Qt Zl;by_cases h1:id=j
   . subst h1
     rw[hc] at this
     grind
   . grind
 . rw[hd,<- h.dead];omega
theorem RC.count_le(h:RC G c N ext d){B:Int}(hB:∀i,ext i<=B){id:Nat}(hid:(G id).isSome=true):(c id:Int)<=B+2*N:=by
 have:=h.cnt id hid
 have:=indeg_le G c N id
 have:=hB id;omega
end
def Qv(s:St):Nat->Nat:=λi=>s.cnt.getD i 0
theorem cntf_set(s:St)(j x dd:Nat)(hj:j<s.cnt.length):Qv { s with cnt:=s.cnt.set j x,dead:=dd }=Zg (Qv s) j x:=by
 funext i
 unfold Qv Zg;by_cases h:i=j
 . subst h;simp[List.getD,hj]
 . simp[List.getD,h,jQa (Ne.symm h)]
theorem cntf_get{s:St}{j:Nat}(hj:j<s.cnt.length):s.cnt[j]?=some (Qv s j):=by
 unfold Qv;rw[yD,yA hj];rfl
structure Only (s s':St):Prop where
 vars:s'.vars=s.vars
 lev:s'.lev=s.lev
 pl:s'.pl=s.pl
 tabs:s'.tabs=s.tabs
 len:s'.cnt.length=s.cnt.length
theorem Only.refl(s:St):Only s s:=⟨rfl,rfl,rfl,rfl,rfl⟩
theorem Only.trans{s s' s'':St}(h:Only s s')(k:Only s' s''):Only s s'':=⟨k.vars.trans h.vars,k.lev.trans h.lev,k.pl.trans h.pl,k.tabs.trans h.tabs,k.len.trans h.len⟩
theorem Only.nd{s s':St}(h:Only s s'):s'.nd=s.nd:=by funext i;unfold St.nd;rw[h.pl]
theorem bump_le{ext:Nat->Int}{B:Int}(h:∀i,ext i<=B)(j:Nat){d:Int}(hd:d<=0):∀i,Qt ext j d i<=B:=λi=>by
 unfold Qt
 have:=h i;split <;> omega
theorem bump_le1{ext:Nat->Int}{B:Int}(h:∀i,ext i<=B)(j:Nat):∀i,Qt ext j 1 i<=B+1:=λi=>by
 unfold Qt
 have:=h i;split <;> omega
theorem bump_ge{ext:Nat->Int}(h:∀i,0<=ext i)(j:Nat){d:Int}(hd:0<=d):∀i,0<=Qt ext j d i:=λi=>by
 unfold Qt
 have:=h i;split <;> omega
theorem RC.zero{G:Gr}{c:Nat->Nat}{N:Nat}{ext:Nat->Int}{d:Nat}(h:RC G c N ext d)(g0:G 0=none){f:Nat}(h0:f/2=0)(x:Int):RC G c N (Qt ext (f/2) x) d :=
 h.congr λi hi=>by
  unfold Qt;rw[jAa];rintro rfl;rw[h0,g0] at hi;cases hi
theorem more_ok{r:Nat->Nat}{N:Nat}:∀(k:Nat) (s:St) (f:Nat) (ext:Nat->Int) (B:Int),Acyc s.nd r->RC s.nd (Qv s) N ext s.dead->(∀id,(s.nd id).isSome=true->id<s.cnt.length)->val s.nd f ->
  0<k/\(f/2≠0->r (f/2)+1<k)->(∀i,ext i<=B)->B+2*N+r (f/2)<big ->
  ∃s',St.more k s f=some s'/\Only s s'/\RC s.nd (Qv s') N (Qt ext (f/2) 1) s'.dead/\∀i,r (f/2)<r i->Qv s' i=Qv s i:=by
 intro k
 induction k with
 | zero=>intro s f ext B _ _ _ _ h;omega
 | succ k ih =>
   intro s f ext B ha hr hl hv hk hB hb;by_cases h0:f/2=0
   . exact⟨s,by simp[St.more,h0],Only.refl s,hr.zero ha.g0 h0 1,λ_ _=>rfl⟩
   . have hsome:=hv.resolve_left h0
     obtain⟨n,hn⟩:=yF.1 hsome;have hlt:=hl _ hsome;have hle:=hr.count_le hB hsome;have hcb:Qv s (f/2)<big:=by omega
     have hk1:=hk.2 h0;by_cases hc:Qv s (f/2)=0
     . obtain⟨hd,h1⟩:=hr.live hn hc
       have hlo:=ha.lo _ n hn;have hhi:=ha.hi _ n hn;rw[<- cntf_set s (f/2) 1 (s.dead-1) hlt] at h1;have B1:=bump_le (bump_le (bump_le1 hB (f/2)) (n.lo/2) (d := -1) (by omega)) (n.hi/2) (d := -1) (by omega);have step:∀(s0:St) (e:Nat) (ext1:Nat->Int),Only s s0->RC s.nd (Qv s0) N ext1 s0.dead->val s.nd e->(e/2≠0->r (e/2)<r (f/2))->(∀i,ext1 i<=B+1)->∃s',St.more k s0 e=some s'/\Only s s'/\RC s.nd (Qv s') N (Qt ext1 (e/2) 1) s'.dead/\∀i,r (f/2)<=r i->Qv s' i=Qv s0 i:=by
        intro s0 e ext1 ho hr1 hv1 hlt1 hB1;have hnd:=ho.nd;by_cases he0:e/2=0
        . obtain⟨j,rfl⟩:∃j,k=j+1:=⟨k-1,by omega⟩
          exact⟨s0,by simp[St.more,he0],ho,hr1.zero ha.g0 he0 1,λ_ _=>rfl⟩
        . have hlt2:=hlt1 he0
          obtain⟨s',h2,h3,h4,h5⟩:=ih s0 e ext1 (B+1) (by rw[hnd];exact ha) (by rw[hnd];exact hr1) (by rw[hnd,ho.len];exact hl) (by rw[hnd];exact hv1) ⟨by omega,λ_=>by omega⟩ hB1 (by omega);exact⟨s',h2,ho.trans h3,by rw[hnd] at h4;exact h4,λi hi=>h5 i (by omega)⟩
       obtain⟨s1,m1,o1,r1,c1⟩:=step _ n.lo _ (⟨rfl,rfl,rfl,rfl,by simp⟩:Only s { s with cnt:=s.cnt.set (f/2) 1,dead:=s.dead-1 }) h1 hlo.1 hlo.2 B1;have B2:∀i,Qt (Qt (Qt (Qt ext (f/2) 1) (n.lo/2) (-1)) (n.hi/2) (-1)) (n.lo/2) 1 i<=B+1:=λi=>by
        have:=bump_le1 hB (f/2) i
        have:=hB i;unfold Qt at *
        grind
       obtain⟨s2,m2,o2,r2,c2⟩:=step s1 n.hi _ o1 r1 hhi.1 hhi.2 B2;refine⟨s2,?_,o2,r2.congr λi _=>?_,λi hi=>?_⟩
       . simp only[St.more,jAa h0,cntf_get hlt,hc,jAb (show 0<big by decide),jEb,jAb hd,hn,m1,m2]
       . unfold Qt
         grind
       . rw[c2 i (by omega),c1 i (by omega),cntf_set s (f/2) 1 (s.dead-1) hlt]
         unfold Zg;rw[jAa (by rintro rfl;omega)]
     . refine⟨{ s with cnt:=s.cnt.set (f/2) (Qv s (f/2)+1) },?_,⟨rfl,rfl,rfl,rfl,by simp⟩,?_,λi hi=>by rw[cntf_set s (f/2) _ s.dead hlt];unfold Zg;rw[jAa (by rintro rfl;omega)]⟩
       . simp only[St.more,jAa h0,cntf_get hlt,jAb hcb,jAa hc]
       . have:=hr.stay (j:=f/2) (x:=Qv s (f/2)+1) (by omega) (by omega)
         rw[<- cntf_set s (f/2) _ s.dead hlt] at this;refine this.congr λi _=>?_
         unfold Qt;split <;> omega
theorem less_ok{r:Nat->Nat}{N:Nat}:∀(k:Nat) (s:St) (f:Nat) (ext:Nat->Int),Acyc s.nd r->RC s.nd (Qv s) N ext s.dead->(∀id,(s.nd id).isSome=true->id<s.cnt.length)->val s.nd f ->
  0<k/\(f/2≠0->r (f/2)+1<k)->(∀i,0<=ext i)->1<=ext (f/2)->N<big ->
  ∃s',St.less k s f=some s'/\Only s s'/\RC s.nd (Qv s') N (Qt ext (f/2) (-1)) s'.dead/\∀i,r (f/2)<r i->Qv s' i=Qv s i:=by
 intro k
 induction k with
 | zero=>intro s f ext _ _ _ _ h;omega
 | succ k ih =>
   intro s f ext ha hr hl hv hk hB hge hb;by_cases h0:f/2=0
   . exact⟨s,by simp[St.less,h0],Only.refl s,hr.zero ha.g0 h0 (-1),λ_ _=>rfl⟩
   . have hsome:=hv.resolve_left h0
     obtain⟨n,hn⟩:=yF.1 hsome;have hlt:=hl _ hsome;have hk1:=hk.2 h0;have hcnt:=hr.cnt _ hsome;have hin:=indeg_nonneg s.nd (Qv s) N (f/2);have hc0:¬Qv s (f/2)=0:=by omega
     have hdl:s.dead<big:=by
      have h1:=hr.dead;have h2:=sumTo_le (deadW_le s.nd (Qv s)) N;omega
     by_cases hc:Qv s (f/2)=1
     . have h1:=hr.die hn hc
       have hlo:=ha.lo _ n hn;have hhi:=ha.hi _ n hn;rw[<- cntf_set s (f/2) 0 (s.dead+1) hlt] at h1;have step:∀(s0:St) (e:Nat) (ext1:Nat->Int),Only s s0->RC s.nd (Qv s0) N ext1 s0.dead->val s.nd e->(e/2≠0->r (e/2)<r (f/2))->(∀i,0<=ext1 i)->1<=ext1 (e/2)->∃s',St.less k s0 e=some s'/\Only s s'/\RC s.nd (Qv s') N (Qt ext1 (e/2) (-1)) s'.dead/\∀i,r (f/2)<=r i->Qv s' i=Qv s0 i:=by
        intro s0 e ext1 ho hr1 hv1 hlt1 hB1 hg1;have hnd:=ho.nd;by_cases he0:e/2=0
        . obtain⟨j,rfl⟩:∃j,k=j+1:=⟨k-1,by omega⟩
          exact⟨s0,by simp[St.less,he0],ho,hr1.zero ha.g0 he0 (-1),λ_ _=>rfl⟩
        . have hlt2:=hlt1 he0
          obtain⟨s',h2,h3,h4,h5⟩:=ih s0 e ext1 (by rw[hnd];exact ha) (by rw[hnd];exact hr1) (by rw[hnd,ho.len];exact hl) (by rw[hnd];exact hv1) ⟨by omega,λ_=>by omega⟩ hB1 hg1 hb;exact⟨s',h2,ho.trans h3,by rw[hnd] at h4;exact h4,λi hi=>h5 i (by omega)⟩
       have P1:∀i,0<=Qt (Qt (Qt ext (f/2) (-1)) (n.lo/2) 1) (n.hi/2) 1 i:=λi=>by
        have:=hB i;unfold Qt
        grind
       have P2:1<=Qt (Qt (Qt ext (f/2) (-1)) (n.lo/2) 1) (n.hi/2) 1 (n.lo/2):=by
        have:=hB (n.lo/2);unfold Qt
        grind
       obtain⟨s1,m1,o1,r1,c1⟩:=step _ n.lo _ (⟨rfl,rfl,rfl,rfl,by simp⟩:Only s { s with cnt:=s.cnt.set (f/2) 0,dead:=s.dead+1 }) h1 hlo.1 hlo.2 P1 P2;have P3:∀i,0<=Qt (Qt (Qt (Qt ext (f/2) (-1)) (n.lo/2) 1) (n.hi/2) 1) (n.lo/2) (-1) i:=λi=>by
        have:=hB i;unfold Qt
        grind
       have P4:1<=Qt (Qt (Qt (Qt ext (f/2) (-1)) (n.lo/2) 1) (n.hi/2) 1) (n.lo/2) (-1) (n.hi/2):=by
        have:=hB (n.hi/2);unfold Qt
        grind
       obtain⟨s2,m2,o2,r2,c2⟩:=step s1 n.hi _ o1 r1 hhi.1 hhi.2 P3 P4;refine⟨s2,?_,o2,r2.congr λi _=>?_,λi hi=>?_⟩
       . simp only[St.less,jAa h0,cntf_get hlt,hc,jEb,jAb hdl,hn,m1,m2,Nat.one_ne_zero,jOb]
       . unfold Qt
         grind
       . rw[c2 i (by omega),c1 i (by omega),cntf_set s (f/2) 0 (s.dead+1) hlt]
         unfold Zg;rw[jAa (by rintro rfl;omega)]
     . refine⟨{ s with cnt:=s.cnt.set (f/2) (Qv s (f/2)-1) },?_,⟨rfl,rfl,rfl,rfl,by simp⟩,?_,λi hi=>by rw[cntf_set s (f/2) _ s.dead hlt];unfold Zg;rw[jAa (by rintro rfl;omega)]⟩
       . simp only[St.less,jAa h0,cntf_get hlt,jAa hc,jAa hc0]
       . have:=hr.stay (j:=f/2) (x:=Qv s (f/2)-1) (by omega) (by omega)
         rw[<- cntf_set s (f/2) _ s.dead hlt] at this;refine this.congr λi _=>?_
         unfold Qt;split <;> omega
end G
namespace G
theorem many_append(a b:List (Option Nd)):many (a++b)=many a+many b:=by unfold many;rw[qBb,yG]
theorem many_le(l:List (Option Nd)):many l<=l.length:=kG _ _
theorem many_set_some{l:List (Option Nd)}{i:Nat}{n:Nd}(hi:i<l.length)(h:l[i]?=some none):many (l.set i (some n))=many l+1:=by
 induction l generalizing i with
 | nil=>simp at hi
 | cons a l ih =>
   cases i with
   | zero =>
     simp at h
     subst h;simp[many]
   | succ i =>
     simp at h hi
     have:=ih hi h;unfold many at *
     cases a <;> simp[this] <;> omega
theorem many_set_none{l:List (Option Nd)}{i:Nat}{n:Nd}(h:l[i]?=some (some n)):many (l.set i none)+1=many l:=by
 induction l generalizing i with
 | nil=>simp at h
 | cons a l ih =>
   cases i with
   | zero =>
     simp at h
     subst h;simp[many]
   | succ i =>
     simp at h
     have:=ih h;unfold many at *
     cases a <;> simp at * <;> omega
theorem many_set_same{l:List (Option Nd)}{i:Nat}{n m:Nd}(h:l[i]?=some (some n)):many (l.set i (some m))=many l:=by
 induction l generalizing i with
 | nil=>simp at h
 | cons a l ih =>
   cases i with
   | zero =>
     simp at h
     subst h;simp[many]
   | succ i =>
     simp at h
     have:=ih h;unfold many at *
     cases a <;> simp at * <;> omega
structure PlOk (p:Pl):Prop where
 room1:p.room<=1048576
 s0:p.slots[0]?=some none
 nodup:p.free.Nodup
 free:∀id∈p.free,id≠0/\p.slots[id]?=some none
 count:many p.slots+p.free.length+1=p.slots.length
 len:p.slots.length<=p.room+1
theorem Pl.nd_some{p:Pl}{id:Nat}{n:Nd}:p.nd id=some n↔id≠0/\p.slots[id]?=some (some n):=by
 unfold Pl.nd;split
 . simp_all
 . rw[yD]
   cases h:p.slots[id]? <;> simp_all
theorem Pl.nd_lt{p:Pl}{id:Nat}(h:(p.nd id).isSome=true):id<p.slots.length:=by
 obtain⟨n,hn⟩:=yF.1 h;exact (yE.1 (Pl.nd_some.1 hn).2).1
theorem Pl.nd_zero(p:Pl):p.nd 0=none:=by simp[Pl.nd]
theorem PlOk.take{p:Pl}(h:PlOk p)(n:Nd):(many p.slots<p.room->∃p' id,p.take n=some (some (p',id))/\PlOk p'/\p'.room=p.room/\id≠0/\p.nd id=none/\p'.nd=Xq p.nd id n/\many p'.slots=many p.slots+1/\p.slots.length<=p'.slots.length/\id<p'.slots.length/\(p.slots.length<p'.slots.length->id=p.slots.length)) /\
  (¬many p.slots<p.room->p.take n=some none):=by
 unfold Pl.take;cases hf:p.free.getLast? with
 | none =>
   have hnil:p.free=[]:=qAa.1 hf;have hc:=h.count;rw[hnil] at hc;simp only[yC,Nat.add_zero] at hc;constructor
   . intro hlt
     simp only;rw[jAa (by omega)];refine⟨_,_,rfl,⟨h.room1,?_,?_,?_,?_,?_⟩,rfl,by omega,?_,?_,?_,?_,?_,?_⟩
     . have:=h.s0
       simp only;rw[jHa (by omega)];exact this
     . simp[hnil]
     . simp[hnil]
     . simp[hnil,many];simp[many] at hc;omega
     . simp;omega
     . unfold Pl.nd
       rw[jAa (by omega),yD,jJ (jBb _)];rfl
     . funext i
       unfold Xq Pl.nd;simp only[yD];by_cases hi:i=p.slots.length
       . subst hi
         rw[jAa (by omega)];simp
       . rw[jAa hi]
         by_cases hl:i<p.slots.length
         . rw[jHa hl]
         . rw[jJ (l:=p.slots) (by omega),jJ (by simp;omega)]
     . simp[many]
     . simp
     . simp
     . intro _;rfl
   . intro hlt
     simp only;rw[jAb (by omega)]
 | some id =>
   have hm:id∈p.free:=List.mem_of_getLast? hf;obtain⟨h0,hs⟩:=h.free id hm;have hlt:=(yE.1 hs).1;have hfl:0<p.free.length:=kQ hm;have hroom:many p.slots<p.room:=by have:=h.count;have:=h.len;omega
   constructor
   . intro _
     have hg:(p.slots.getD id none).isNone=true:=by rw[yD,hs];rfl
     simp only;rw[jAb ⟨h0,hlt,hg⟩];have hdl:p.free=p.free.dropLast++[id]:=by
      obtain⟨ys,hy⟩:=List.getLast?_eq_some_iff.1 hf;rw[hy,List.dropLast_concat]
     have hnd:=h.nodup;rw[hdl] at hnd;obtain⟨hn1,_,hn2⟩:=jY.1 hnd;have hcnt:=many_set_some (n:=n) hlt hs;refine⟨_,_,rfl,⟨h.room1,?_,hn1,?_,?_,?_⟩,rfl,h0,?_,?_,hcnt,by simp,by simpa using hlt,?_⟩
     . simp only;rw[jQa (by omega)];exact h.s0
     . intro j hj
       have hjn:j≠id:=λe=>hn2 j hj id (by simp) e
       obtain⟨hj0,hj1⟩:=h.free j (by rw[hdl];exact jRa _ hj);exact⟨hj0,by simp only;rw[jQa (Ne.symm hjn)];exact hj1⟩
     . simp only
       have:=h.count;rw[hcnt,List.length_dropLast,jJa];omega
     . simpa using h.len
     . unfold Pl.nd;rw[jAa h0,yD,hs];rfl
     . funext i
       unfold Xq Pl.nd;simp only[yD];by_cases hi:i=id
       . subst hi
         rw[jAa h0,jAb rfl,jP hlt];rfl
       . rw[jAa hi,jQa (Ne.symm hi)]
     . intro hx;simp at hx
   . intro hx;omega
theorem PlOk.give{p:Pl}(h:PlOk p){id:Nat}{n:Nd}(hn:p.nd id=some n):PlOk (p.give id)/\(p.give id).nd=(λi=>if i=id then none else p.nd i)/\(p.give id).room=p.room/\many (p.give id).slots+1=many p.slots/\(p.give id).slots.length=p.slots.length:=by
 obtain⟨h0,hs⟩:=Pl.nd_some.1 hn;have hlt:=(yE.1 hs).1;have hcnt:=many_set_none hs;unfold Pl.give;rw[jAb (by rw[hn];rfl)];refine⟨⟨h.room1,?_,?_,?_,?_,?_⟩,?_,rfl,hcnt,by simp⟩
 . simp only;rw[jQa (by omega)];exact h.s0
 . refine jY.2 ⟨h.nodup,by simp,λa ha b hb=>?_⟩
   rw[jKb] at hb;subst hb;rintro rfl
   have:=(h.free a ha).2;rw[hs] at this;cases this
 . intro j hj
   rcases jH.1 hj with hj|hj
   . obtain⟨hj0,hj1⟩:=h.free j hj
     refine⟨hj0,?_⟩;simp only;rw[jQa (by rintro rfl;rw[hs] at hj1;cases hj1)];exact hj1
   . rw[jKb] at hj
     subst hj;exact⟨h0,by simp only;rw[jP hlt]⟩
 . have:=h.count
   simp only[yG,jJa,yB,yC];omega
 . simpa using h.len
 . funext i
   unfold Pl.nd;simp only[yD];by_cases hi:i=id
   . subst hi
     rw[jAa h0,jAb rfl,jP hlt];rfl
   . rw[jAa hi,jQa (Ne.symm hi)]
def Zh(G:Gr)(id:Nat)(n:Nd):Gr:=λi=>if i=id then some n else G i
theorem PlOk.put{p:Pl}(h:PlOk p){id:Nat}{n m:Nd}(hn:p.nd id=some n):PlOk (p.put id m)/\(p.put id m).nd=Zh p.nd id m/\(p.put id m).room=p.room/\many (p.put id m).slots=many p.slots/\(p.put id m).slots.length=p.slots.length:=by
 obtain⟨h0,hs⟩:=Pl.nd_some.1 hn;have hlt:=(yE.1 hs).1;have hcnt:=many_set_same (m:=m) hs;unfold Pl.put;rw[jAb (by rw[hn];rfl)];refine⟨⟨h.room1,?_,h.nodup,?_,?_,?_⟩,?_,rfl,hcnt,by simp⟩
 . simp only;rw[jQa (by omega)];exact h.s0
 . intro j hj
   obtain⟨hj0,hj1⟩:=h.free j hj;refine⟨hj0,?_⟩;simp only;rw[jQa (by rintro rfl;rw[hs] at hj1;cases hj1)];exact hj1
 . have:=h.count
   simp only[jJa];omega
 . simpa using h.len
 . funext i
   unfold Pl.nd Zh;simp only[yD];by_cases hi:i=id
   . subst hi
     rw[jAa h0,jAb rfl,jP hlt];rfl
   . rw[jAa hi,jQa (Ne.symm hi)]
structure TabOk (G:Gr) (v:Nat) (ex:Nat->Prop) (t:List Ent):Prop where
 sound:∀e∈t,¬ex e.id/\∃n,G e.id=some n/\n.v=v/\n.lo=e.lo/\n.hi=e.hi
 full:∀id n,G id=some n->n.v=v->¬ex id->(⟨n.lo,n.hi,id⟩:Ent)∈t
 nodup:(t.map (·.id)).Nodup
theorem findT_some{t:List Ent}{lo hi id:Nat}(h:findT t lo hi=some id):(⟨lo,hi,id⟩:Ent)∈t:=by
 unfold findT at h;cases hf:t.find? λe=>e.lo==lo&&e.hi==hi with
 | none=>rw[hf] at h;cases h
 | some e =>
   rw[hf] at h;injection h with h
   have h1:=List.find?_some hf;have h2:=kTa hf;simp at h1
   obtain⟨rfl,rfl⟩:=h1;subst h;exact h2
theorem findT_none{t:List Ent}{lo hi:Nat}(h:findT t lo hi=none):∀id,(⟨lo,hi,id⟩:Ent)∉t:=by
 intro id hm;unfold findT at h;rw[Option.map_eq_none_iff,kAa] at h
 have:=h _ hm;simp at this
def Uniq(G:Gr):Prop:=∀i j n m,G i=some n->G j=some m->n.v=m.v->n.lo=m.lo->n.hi=m.hi->i=j
theorem Can.uniq{G:Gr}{r:Nat->Nat}(h:Can G r):Uniq G:=by
 intro i j n m hn hm h1 h2 h3
 have:=h.can (2*i) (2*j) (.inr (by rw[show 2*i/2=i by omega,hn];rfl)) (.inr (by rw[show 2*j/2=j by omega,hm];rfl)) λρ=>by rw[den_id h.toAcyc hn,den_id h.toAcyc hm,h1,h2,h3]
 omega
theorem TabOk.find_node{G:Gr}{v:Nat}{ex:Nat->Prop}{t:List Ent}(h:TabOk G v ex t){lo hi id:Nat}(hf:findT t lo hi=some id):¬ex id/\∃n,G id=some n/\n.v=v/\n.lo=lo/\n.hi=hi:=h.sound _ (findT_some hf)
theorem TabOk.find_none{G:Gr}{v:Nat}{ex:Nat->Prop}{t:List Ent}(h:TabOk G v ex t){lo hi:Nat}(hf:findT t lo hi=none):∀id n,G id=some n->n.v=v->¬ex id->¬(n.lo=lo/\n.hi=hi):=by
 rintro id n hn hv he ⟨rfl,rfl⟩;exact findT_none hf id (h.full id n hn hv he)
theorem TabOk.congr{G G':Gr}{v:Nat}{ex ex':Nat->Prop}{t:List Ent}(h:TabOk G v ex t)(h1:∀id n,G id=some n->n.v=v->¬ex id->¬ex' id/\∃n',G' id=some n'/\n'.v=v/\n'.lo=n.lo/\n'.hi=n.hi)
  (h2:∀id n',G' id=some n'->n'.v=v->¬ex' id->¬ex id/\∃n,G id=some n/\n.v=v/\n'.lo=n.lo/\n'.hi=n.hi):TabOk G' v ex' t:=by
 refine⟨λe he=>?_,λid n' hn hv hx=>?_,h.nodup⟩
 . obtain⟨hx,n,hn,hv,h3,h4⟩:=h.sound e he
   obtain⟨hx',n',hn',hv',h5,h6⟩:=h1 _ n hn hv hx;exact⟨hx',n',hn',hv',h5.trans h3,h6.trans h4⟩
 . obtain⟨hx',n,hn',hv',h5,h6⟩:=h2 _ n' hn hv hx
   rw[h5,h6];exact h.full _ n hn' hv' hx'
theorem TabOk.put{G G':Gr}{v:Nat}{ex ex':Nat->Prop}{t:List Ent}(h:TabOk G v ex t){id:Nat}{n:Nd}(hG:G' id=some n)(hv:n.v=v)(hx:¬ex' id)(hold:∀m,G id=some m->m.v=v->ex id)
  (h1:∀i m,i≠id->m.v=v->((G i=some m/\¬ex i)↔(G' i=some m/\¬ex' i)))(hf:findT t n.lo n.hi=none):TabOk G' v ex' (putT t n.lo n.hi id):=by
 unfold putT;rw[hf];have hid:∀e∈t,e.id≠id:=λe he heq=>by
  obtain⟨hx',m,hm,hmv,_⟩:=h.sound e he;rw[heq] at hm hx';exact hx' (hold m hm hmv)
 refine⟨λe he=>?_,λi m hm hmv hxi=>?_,?_⟩
 . rcases jH.1 he with he|he
   . obtain⟨hx',m,hm,hmv,h3,h4⟩:=h.sound e he
     obtain⟨h5,h6⟩:=(h1 e.id m (hid e he) hmv).1 ⟨hm,hx'⟩;exact⟨h6,m,h5,hmv,h3,h4⟩
   . rw[jKb] at he
     subst he;exact⟨hx,n,hG,hv,rfl,rfl⟩
 . by_cases hi:i=id
   . subst hi
     rw[hG] at hm;cases hm;exact kFb _ (jKb.2 rfl)
   . obtain⟨h5,h6⟩:=(h1 i m hi hmv).2 ⟨hm,hxi⟩
     exact jRa _ (h.full i m h5 hmv h6)
 . rw[jGa]
   refine jY.2 ⟨h.nodup,by simp,λa ha b hb=>?_⟩;simp at hb
   subst hb;obtain⟨e,he,rfl⟩:=jF.1 ha;exact hid e he
theorem TabOk.cut{G G':Gr}{v:Nat}{ex ex':Nat->Prop}{t:List Ent}(h:TabOk G v ex t)(hu:Uniq G){id:Nat}{n:Nd}(hG:G id=some n)(hv:n.v=v)(hne:∀m,G' id=some m->m.v=v->ex' id)
  (h1:∀i m,i≠id->m.v=v->((G i=some m/\¬ex i)↔(G' i=some m/\¬ex' i))):TabOk G' v ex' (cutT t n.lo n.hi):=by
 have hid:∀e∈t,(e.lo=n.lo/\e.hi=n.hi)↔e.id=id:=λe he=>by
  obtain⟨hx',m,hm,hmv,h3,h4⟩:=h.sound e he;constructor
  . rintro⟨h5,h6⟩
    exact hu _ _ _ _ hm hG (hmv.trans hv.symm) (h3.trans h5) (h4.trans h6)
  . intro heq
    rw[heq,hG] at hm;cases hm;exact⟨h3.symm,h4.symm⟩
 have hmem:∀e,e∈cutT t n.lo n.hi↔e∈t/\e.id≠id:=λe=>by
  unfold cutT;rw[jQ];constructor
  . rintro⟨h2,h3⟩
    refine⟨h2,λheq=>?_⟩;obtain⟨h4,h5⟩:=(hid e h2).2 heq;simp[h4,h5] at h3
  . rintro⟨h2,h3⟩
    refine⟨h2,?_⟩
    have:¬(e.lo=n.lo/\e.hi=n.hi):=λh4=>h3 ((hid e h2).1 h4)
    simp only[kNa,Bool.and_eq_false_iff,jGb];by_cases h5:e.lo=n.lo
    . exact .inr λh6=>this ⟨h5,h6⟩
    . exact .inl h5
 refine⟨λe he=>?_,λi m hm hmv hxi=>?_,?_⟩
 . obtain⟨h2,h3⟩:=(hmem e).1 he
   obtain⟨hx',m,hm,hmv,h4,h5⟩:=h.sound e h2;obtain⟨h6,h7⟩:=(h1 e.id m h3 hmv).1 ⟨hm,hx'⟩;exact⟨h7,m,h6,hmv,h4,h5⟩
 . have hi:i≠id:=λheq=>by
     subst heq;exact hxi (hne m hm hmv)
   obtain⟨h5,h6⟩:=(h1 i m hi hmv).2 ⟨hm,hxi⟩;exact (hmem _).2 ⟨h.full i m h5 hmv h6,hi⟩
 . exact qC (List.Sublist.map _ kO) h.nodup
end G
namespace G
theorem sumTo_ext{f:Nat->Int}{N:Nat}(hz:∀i,N<=i->f i=0):∀{N':Nat},N<=N'->Kk f N'=Kk f N
 | 0,h=>by rw[kQa.1 h]
 | n+1,h=>by
   by_cases he:N=n+1
   . rw[he]
   . show Kk f n+f n=Kk f N
     rw[sumTo_ext hz (show N<=n by omega),hz n (by omega)];omega
theorem sumTo_zero{f:Nat->Int}(hz:∀i,f i=0):∀n,Kk f n=0
 | 0=>rfl
 | n+1=>by unfold Kk;rw[sumTo_zero hz n,hz n];rfl
theorem RC.add{G:Gr}{c:Nat->Nat}{N N':Nat}{ext ext':Nat->Int}{d id:Nat}{n:Nd}(h:RC G c N ext d)(hk:∀i m,G i=some m->val G m.lo/\val G m.hi)(hid:id≠0)(hG:G id=none)(hN:N<=N')(hlt:id<N')
  (he:ext' id=0)(hee:∀i,i≠id->ext' i=ext i):RC (Xq G id n) (Zg c id 0) N' ext' (d+1):=by
 have gN:∀i,N<=i->G i=none:=λi hi=>by
  cases hg:G i with
  | none=>rfl
  | some m=>have:=h.dom i (by rw[hg];rfl);omega
 have hin:∀x,Zy (Xq G id n) (Zg c id 0) N' x=Zy G c N x:=λx=>by
  unfold Zy;rw[<- sumTo_ext (f:=inW G c x) (λi hi=>by unfold inW;rw[gN i hi]) hN];refine Kn λi _=>?_
  by_cases hi:i=id
  . subst hi;unfold inW Zg;rw[Qm,hG];simp
  . unfold inW Zg;rw[Qr _ _ hi];simp[hi]
 refine⟨λi hi=>?_,λi hi=>?_,?_⟩
 . by_cases he:i=id
   . subst he;exact hlt
   . rw[Qr _ _ he] at hi;have:=h.dom i hi;omega
 . rw[hin]
   by_cases hx:i=id
   . subst hx
     have h0:Zy G c N i=0:=sumTo_zero (λj=>by
      unfold inW;cases hg:G j with
      | none=>rfl
      | some m =>
        obtain⟨h1,h2⟩:=hk j m hg;have e1:m.lo/2≠i:=λe=>by rcases h1 with h1|h1;omega;rw[e,hG] at h1;cases h1
        have e2:m.hi/2≠i:=λe=>by rcases h2 with h2|h2;omega;rw[e,hG] at h2;cases h2
        simp[Zl,e1,e2]) N
     rw[h0,he];simp[Zg]
   . rw[Qr _ _ hx] at hi
     have:=h.cnt i hi;unfold Zg;rw[jAa hx,hee i hx];exact this
 . have e1:Kk (Kc G c) N'=Kk (Kc G c) N:=sumTo_ext (λi hi=>by unfold Kc;rw[gN i hi];simp) hN
   rw[sumTo_upd (j:=id) (f:=Kc G c) hlt (λi hi=>by unfold Kc Zg;rw[Qr _ _ hi];simp[hi]),e1,<- h.dead];have e2:Kc (Xq G id n) (Zg c id 0) id=1:=by unfold Kc Zg;rw[Qm];simp
   have e3:Kc G c id=0:=by unfold Kc;rw[hG];simp
   omega
def lvf(s:St):Nat->Nat:=λv=>s.lev.getD v 0
def rkf(lv:Nat->Nat)(G:Gr):Nat->Nat:=λid=>match G id with|some n=>70-lv n.v|none=>0
def Qg(G:Gr):Nat->Int:=λi=>match G i with|some n=>(n.refs:Int)|none=>0
theorem Xz{lv:Nat->Nat}{G:Gr}{id:Nat}{n:Nd}(h:G id=some n):rkf lv G id=70-lv n.v:=by unfold rkf;rw[h]
theorem rkf_le(lv:Nat->Nat)(G:Gr)(id:Nat):rkf lv G id<=70:=by unfold rkf;split <;> omega
theorem rkf_top(lv:Nat->Nat)(G:Gr)(id:Nat):rkf lv G id+2<fuel:=by have:=rkf_le lv G id;have:72<fuel:=(by decide);omega
structure PermOk (s:St):Prop where
 le:s.vars.length<=64
 lev:s.lev.length=s.vars.length
 tabs:s.tabs.length=s.vars.length
 lv:∀v,v<s.vars.length->lvf s v<s.vars.length/\s.vars.getD (lvf s v) 0=v
 vl:∀k,k<s.vars.length->s.vars.getD k 0<s.vars.length/\lvf s (s.vars.getD k 0)=k
theorem PermOk.inj{s:St}(h:PermOk s){v x:Nat}(hv:v<s.vars.length)(hx:x<s.vars.length)(he:lvf s v=lvf s x):v=x:=by
 rw[<- (h.lv v hv).2,he,(h.lv x hx).2]
structure StOk (B:Nat) (s:St):Prop where
 pm:PermOk s
 pl:PlOk s.pl
 can:Can s.nd (rkf (lvf s) s.nd)
 vars:∀id n,s.nd id=some n->n.v<s.vars.length
 ord:Ord s.nd (lvf s) 0
 tab:∀v,v<s.vars.length->TabOk s.nd v (λ_=>False) (s.tab v)
 cl:∀id,(s.nd id).isSome=true->id<s.cnt.length
 clen:s.cnt.length<=1048577
 rc:RC s.nd (Qv s) s.pl.slots.length (Qg s.nd) s.dead
 refs:∀id n,s.nd id=some n->n.refs<=B
theorem StOk.slots{B:Nat}{s:St}(h:StOk B s):s.pl.slots.length<=1048577:=by have:=h.pl.len;have:=h.pl.room1;omega
theorem StOk.kids{B:Nat}{s:St}(h:StOk B s):∀i m,s.nd i=some m->val s.nd m.lo/\val s.nd m.hi:=λi m hm=>⟨(h.can.lo i m hm).1,(h.can.hi i m hm).1⟩
theorem RC.dead_le{G:Gr}{c:Nat->Nat}{N:Nat}{ext:Nat->Int}{d:Nat}(h:RC G c N ext d):d<=N:=by
 have h1:=h.dead;have h2:=sumTo_le (deadW_le G c) N;omega
structure Added (s:St) (v lo hi:Nat) (s':St) (id:Nat):Prop where
 run:s.add v lo hi=some (some (s',id))
 pl:PlOk s'.pl
 room:s'.pl.room=s.pl.room
 id0:id≠0
 old:s.nd id=none
 nd:s'.nd=Xq s.nd id ⟨v,lo,hi,0⟩
 many:many s'.pl.slots=many s.pl.slots+1
 slots:s.pl.slots.length<=s'.pl.slots.length
 lt:id<s'.pl.slots.length
 vars:s'.vars=s.vars
 lev:s'.lev=s.lev
 tabs:s'.tabs=s.tabs.set v (putT (s.tab v) lo hi id)
 dead:s'.dead=s.dead+1
 cnt:Qv s'=Zg (Qv s) id 0
 clt:id<s'.cnt.length
 cle:s.cnt.length<=s'.cnt.length
 clm:s'.cnt.length<=s.cnt.length\/s'.cnt.length<=s'.pl.slots.length
theorem add_raw{s:St}{v lo hi:Nat}(hp:PlOk s.pl)(hv:v<s.tabs.length)(hd:s.dead<big) :
  (many s.pl.slots<s.pl.room->∃s' id,Added s v lo hi s' id)/\(¬many s.pl.slots<s.pl.room->s.add v lo hi=some none):=by
 obtain⟨h1,h2⟩:=hp.take ⟨v,lo,hi,0⟩;constructor
 . intro hlt
   obtain⟨p',id,e1,e2,e3,e4,e5,e6,e7,e8,e9,e10⟩:=h1 hlt;have hid:id<4194304:=by have:=e2.len;have:=e2.room1;omega
   refine⟨{ s with pl:=p',cnt:=(s.cnt++List.replicate (id+1-s.cnt.length) 0).set id 0,dead:=s.dead+1,tabs:=s.tabs.set v (putT (s.tab v) lo hi id) },id,⟨?_,e2,e3,e4,e5,e6,e7,e8,e9,rfl,rfl,rfl,rfl,?_,?_,?_,?_⟩⟩
   . unfold St.add
     rw[e1];simp only;rw[jAb ⟨hv,hid,hd⟩]
   . funext i
     unfold Qv Zg;simp only[yD];by_cases hi:i=id
     . subst hi
       rw[jAb rfl,jP (by simp;omega)];rfl
     . rw[jAa hi,jQa (Ne.symm hi)]
       by_cases hl:i<s.cnt.length
       . rw[jHa hl]
       . rw[jOa (by omega),jJ (l:=s.cnt) (by omega),kUa]
         split <;> rfl
   . simp only[jJa,yG,kM];omega
   . simp only[jJa,yG,kM];omega
   . simp only[jJa,yG,kM]
     by_cases hc:s.cnt.length<=id
     . right;omega
     . left;omega
 . intro hlt
   unfold St.add;rw[h2 hlt]
theorem norm_eq(lo hi:Nat):norm lo hi=(flipIf lo (hi%2==1),flipIf hi (hi%2==1),hi%2==1):=by
 unfold norm flipIf;by_cases h:hi%2=1
 . simp[h]
 . have:hi%2=0:=by omega
   simp[this]
theorem norm_even(hi:Nat):flipIf hi (hi%2==1)%2=0:=by
 unfold flipIf;by_cases h:hi%2=1
 . have:=flip_mod hi;simp[h];omega
 . have:hi%2=0:=by omega
   simp[this]
theorem flipIf_inj{e f:Nat}{b:Bool}(h:flipIf e b=flipIf f b):e=f:=by
 cases b
 . simpa[flipIf] using h
 . exact flip_inj (by simpa[flipIf] using h)
theorem ite3_flip{G:Gr}{v lo hi:Nat}{t:Bool}(ρ:Nat->Bool):(t ^^ ite3 v (den G (flipIf hi t)) (den G (flipIf lo t)) ρ)=ite3 v (den G hi) (den G lo) ρ:=by
 unfold ite3;split <;> rw[Ke] <;> cases t <;> simp
theorem refsf_add(G:Gr)(id:Nat)(v lo hi:Nat)(h:G id=none):Qg (Xq G id ⟨v,lo,hi,0⟩) id=0/\∀i,i≠id->Qg (Xq G id ⟨v,lo,hi,0⟩) i=Qg G i :=
 ⟨by unfold Qg;rw[Qm];rfl,λi hi=>by unfold Qg;rw[Qr _ _ hi]⟩
theorem Zm{α:Type}(l:List α)(i j:Nat)(x d:α)(hi:i<l.length):(l.set i x).getD j d=if j=i then x else l.getD j d:=by
 simp only[yD];by_cases h:j=i
 . subst h;rw[jAb rfl,jP hi];rfl
 . rw[jAa h,jQa (Ne.symm h)]
theorem StOk.fresh{B:Nat}{s:St}(h:StOk B s){v lo hi:Nat}(hv:v<s.vars.length)(hl:val s.nd lo)(hh:val s.nd hi)(ul:∀m,s.nd (lo/2)=some m->lvf s v<lvf s m.v)(uh:∀m,s.nd (hi/2)=some m->lvf s v<lvf s m.v)
  (hne:lo≠hi)(hev:hi%2=0)(hf:findT (s.tab v) lo hi=none):∀i m b,s.nd i=some m->¬ ∀ρ,den s.nd (G.edge i b) ρ=ite3 v (den s.nd hi) (den s.nd lo) ρ:=by
 have ha:=h.can.toAcyc;have il:=h.ord.low ha hl (λ_ _=>jC _) ul;have ih:=h.ord.low ha hh (λ_ _=>jC _) uh;refine h.can.no_other hl hh hev hne il ih (λi m hm hmv=>?_) (λi m hm hmv=>?_)
 . have hmn:=h.vars i m hm
   rcases Nat.lt_trichotomy (lvf s m.v) (lvf s v) with hlt|heq|hgt
   . exact .inl ⟨h.ord.low ha hl (λ_ _=>jC _) λx hx=>by have:=ul x hx;omega,h.ord.low ha hh (λ_ _=>jC _) λx hx=>by have:=uh x hx;omega⟩
   . exact absurd (h.pm.inj hmn hv heq) hmv
   . refine .inr (h.ord.low ha (.inr (by rw[show 2*i/2=i by omega,hm];rfl)) (λ_ _=>jC _) λx hx=>?_)
     rw[show 2*i/2=i by omega,hm] at hx;cases hx;exact hgt
 . exact (h.tab v hv).find_none hf i m hm hmv (λhx=>hx)
theorem StOk.added{B:Nat}{s:St}(h:StOk B s){v lo hi:Nat}(hv:v<s.vars.length)(hl:val s.nd lo)(hh:val s.nd hi)(ul:∀m,s.nd (lo/2)=some m->lvf s v<lvf s m.v)(uh:∀m,s.nd (hi/2)=some m->lvf s v<lvf s m.v)
  (hne:lo≠hi)(hev:hi%2=0)(hf:findT (s.tab v) lo hi=none){s':St}{id:Nat}(ad:Added s v lo hi s' id) :
  StOk B s'/\(∀e,val s.nd e->∀ρ,den s'.nd e ρ=den s.nd e ρ)/\∀ρ,den s'.nd (2*id) ρ=ite3 v (den s.nd hi) (den s.nd lo) ρ:=by
 have ha:=h.can.toAcyc;have il:=h.ord.low ha hl (λ_ _=>jC _) ul;have ih:=h.ord.low ha hh (λ_ _=>jC _) uh;have hlv:lvf s'=lvf s:=by unfold lvf;rw[ad.lev]
 have hnew:=h.fresh hv hl hh ul uh hne hev hf;have hlvv:=(h.pm.lv v hv).1;have hle:=h.pm.le;have rkold:∀{e},val s.nd e->(∀m,s.nd (e/2)=some m->lvf s v<lvf s m.v)->e/2≠0->rkf (lvf s) s.nd (e/2)<rkf (lvf s) (Xq s.nd id ⟨v,lo,hi,0⟩) id:=λhve hu h0=>by
  obtain⟨m,hm⟩:=yF.1 (hve.resolve_left h0);rw[Xz hm,Xz (Qm _ _ _)]
  have:=hu m hm;simp only;omega
 obtain⟨hc,hd⟩:=h.can.add (n:=⟨v,lo,hi,0⟩) ad.id0 ad.old hl hh hev il ih hne (r':=rkf (lvf s) (Xq s.nd id ⟨v,lo,hi,0⟩)) (λi hi=>by
  have hi':i≠id:=λe=>hi (by rw[e];exact ad.old)
  unfold rkf;rw[Qr _ _ hi']) (rkf_top _ _) (rkold hl ul) (rkold hh uh) hnew
 have hdf:∀e,val s.nd e->den (Xq s.nd id ⟨v,lo,hi,0⟩) e=den s.nd e:=λe he=>funext (hd e he)
 obtain⟨hr1,hr2⟩:=refsf_add s.nd id v lo hi ad.old;have kid:∀c m,val s.nd c->Xq s.nd id ⟨v,lo,hi,0⟩ (c/2)=some m->s.nd (c/2)=some m:=λc m hvc hm=>by
  by_cases he:c/2=id
  . rcases hvc with h0|h0
    . exact absurd (he ▸ h0) ad.id0
    . rw[he,ad.old] at h0;cases h0
  . rw[Qr _ _ he] at hm;exact hm
 refine⟨⟨⟨by rw[ad.vars];exact hle,by rw[ad.lev,ad.vars];exact h.pm.lev,by rw[ad.tabs,ad.vars,jJa];exact h.pm.tabs,by rw[ad.vars,hlv];exact h.pm.lv,by rw[ad.vars,hlv];exact h.pm.vl⟩,ad.pl,by rw[hlv,ad.nd];exact hc,?_,?_,?_,?_,?_,?_,?_⟩,?_,?_⟩
 . rw[ad.nd,ad.vars]
   intro i m hm;by_cases hi:i=id
   . subst hi;rw[Qm] at hm;cases hm;exact hv
   . rw[Qr _ _ hi] at hm;exact h.vars i m hm
 . rw[ad.nd,hlv]
   refine⟨λi m hm _ x hx=>?_,λi m hm _ x hx=>?_⟩
   . by_cases hi:i=id
     . subst hi;rw[Qm] at hm;cases hm;exact ul x (kid lo x hl hx)
     . rw[Qr _ _ hi] at hm;exact h.ord.lo i m hm (jC _) x (kid m.lo x (h.kids i m hm).1 hx)
   . by_cases hi:i=id
     . subst hi;rw[Qm] at hm;cases hm;exact uh x (kid hi x hh hx)
     . rw[Qr _ _ hi] at hm;exact h.ord.hi i m hm (jC _) x (kid m.hi x (h.kids i m hm).2 hx)
 . rw[ad.vars]
   intro x hx;unfold St.tab;rw[ad.tabs,ad.nd,Zm _ _ _ _ _ (by rw[h.pm.tabs];exact hv)];split
   . rename_i he
     subst he;exact (h.tab x hx).put (n:=⟨x,lo,hi,0⟩) (Qm _ _ _) rfl (λhx=>hx) (λm hm _=>by rw[ad.old] at hm;cases hm) (λi m hi _=>by rw[Qr _ _ hi]) hf
   . rename_i he
     refine (h.tab x hx).congr (λi m hm hmv hxx=>⟨hxx,m,?_,hmv,rfl,rfl⟩) (λi m hm hmv hxx=>⟨hxx,m,?_,hmv,rfl,rfl⟩)
     . rw[Qr _ _ (λe=>by subst e;rw[ad.old] at hm;cases hm)];exact hm
     . by_cases hi:i=id
       . subst hi;rw[Qm] at hm;cases hm;exact absurd hmv (Ne.symm he)
       . rw[Qr _ _ hi] at hm;exact hm
 . rw[ad.nd]
   intro i hi;by_cases he:i=id
   . subst he;exact ad.clt
   . rw[Qr _ _ he] at hi;have:=h.cl i hi;have:=ad.cle;omega
 . have h1:=ad.clm;have h2:=h.clen;have h3:=ad.pl.len;have h4:=ad.pl.room1;omega
 . rw[ad.nd,ad.cnt,ad.dead]
   exact h.rc.add h.kids ad.id0 ad.old ad.slots ad.lt hr1 hr2
 . rw[ad.nd]
   intro i m hm;by_cases hi:i=id
   . subst hi;rw[Qm] at hm;cases hm;exact jC _
   . rw[Qr _ _ hi] at hm;exact h.refs i m hm
 . rw[ad.nd];exact hd
 . rw[ad.nd]
   intro ρ;rw[Xc hc.toAcyc (Qm _ _ _),hdf _ hl,hdf _ hh]
end G
namespace G
theorem PermOk.level{s:St}(h:PermOk s)(v:Int):s.level v=if 0<=v/\v<s.vars.length then ((lvf s v.toNat:Nat):Int) else -1:=by
 unfold St.level lvf;rw[h.lev]
theorem PermOk.level_nat{s:St}(h:PermOk s){v:Nat}(hv:v<s.vars.length):s.level (v:Int)=(lvf s v:Nat):=by
 rw[h.level,jAb ⟨by omega,by omega⟩];rfl
theorem is_iff{s:St}{f:Int}:s.is f=true↔0<=f/\val s.nd f.toNat:=by
 unfold St.is val;simp
theorem is_nat{s:St}{f:Nat}(h:val s.nd f):s.is (f:Int)=true:=is_iff.2 ⟨by omega,h⟩
theorem StOk.under{B:Nat}{s:St}(h:StOk B s){f:Nat}(hf:val s.nd f){v:Nat}(hv:v<s.vars.length):s.under f (s.level v)=true↔∀m,s.nd (f/2)=some m->lvf s v<lvf s m.v:=by
 unfold St.under;rw[h.pm.level_nat hv];by_cases h0:f/2=0
 . simp[h0,h.can.g0]
 . obtain⟨n,hn⟩:=yF.1 (hf.resolve_left h0)
   simp[h0,hn,h.pm.level_nat (h.vars _ _ hn)]
theorem Can.not_const{G:Gr}{r:Nat->Nat}(h:Can G r){v lo hi e:Nat}(hl:val G lo)(hh:val G hi)(il:Indep (den G lo) v)(ih:Indep (den G hi) v)(hne:lo≠hi)(h0:e/2=0):¬ ∀ρ,den G e ρ=ite3 v (den G hi) (den G lo) ρ:=by
 intro hall;refine hne (h.can _ _ hl hh λρ=>?_);have e1:=hall (upd ρ v true);have e2:=hall (upd ρ v false);rw[Yh ih,Qp h.g0 h0] at e1;rw[Xj il,Qp h.g0 h0] at e2;rw[<- e1,<- e2]
theorem StOk.unknown{B:Nat}{s:St}(h:StOk B s){v lo hi:Nat}(hv:v<s.vars.length)(hl:val s.nd lo)(hh:val s.nd hi)(ul:∀m,s.nd (lo/2)=some m->lvf s v<lvf s m.v)(uh:∀m,s.nd (hi/2)=some m->lvf s v<lvf s m.v)
  (hne:lo≠hi)(hf:findT (s.tab v) (flipIf lo (hi%2==1)) (flipIf hi (hi%2==1))=none):∀r,val s.nd r->¬ ∀ρ,den s.nd r ρ=ite3 v (den s.nd hi) (den s.nd lo) ρ:=by
 intro r hr hall;have ha:=h.can.toAcyc;have il:=h.ord.low ha hl (λ_ _=>jC _) ul;have ih:=h.ord.low ha hh (λ_ _=>jC _) uh;by_cases h0:r/2=0
 . exact h.can.not_const hl hh il ih hne h0 hall
 . obtain⟨m,hm⟩:=yF.1 (hr.resolve_left h0)
   refine h.fresh (lo:=flipIf lo (hi%2==1)) (hi:=flipIf hi (hi%2==1)) hv (val_flipIf.2 hl) (val_flipIf.2 hh) (by rw[Qx];exact ul) (by rw[Qx];exact uh) (λe=>hne (flipIf_inj e)) (norm_even hi) hf _ m ((r%2==1) ^^ (hi%2==1)) hm λρ=>?_
   have e1:=hall ρ;rw[<- edge_of r,Ka] at e1;rw[Ka];have e2:=ite3_flip (G:=s.nd) (v:=v) (lo:=lo) (hi:=hi) (t:=(hi%2==1)) ρ;rw[<- e2] at e1;generalize ite3 v _ _ ρ=x at *
   generalize den s.nd _ ρ=y at *
   generalize (hi%2==1)=t at *
   generalize (r%2==1)=u at *
   cases t <;> cases u <;> cases x <;> cases y <;> simp_all
theorem StOk.make{B:Nat}{s:St}(h:StOk B s){v lo hi:Nat}(hv:v<s.vars.length)(hl:val s.nd lo)(hh:val s.nd hi)(ul:∀m,s.nd (lo/2)=some m->lvf s v<lvf s m.v)(uh:∀m,s.nd (hi/2)=some m->lvf s v<lvf s m.v) :
  (∃r,s.mkE v lo hi=some (s,r,0)/\val s.nd r/\∀ρ,den s.nd r ρ=ite3 v (den s.nd hi) (den s.nd lo) ρ) \/
  (s.mkE v lo hi=some (s,0,7)/\¬many s.pl.slots<s.pl.room/\lo≠hi/\∀r,val s.nd r->¬ ∀ρ,den s.nd r ρ=ite3 v (den s.nd hi) (den s.nd lo) ρ) \/
  (∃s' id t,s.mkE v lo hi=some (s',G.edge id t,0)/\Added s v (flipIf lo t) (flipIf hi t) s' id/\StOk B s'/\many s.pl.slots<s.pl.room/\lo≠hi/\(∀e,val s.nd e->∀ρ,den s'.nd e ρ=den s.nd e ρ) /\
    (∀ρ,den s'.nd (G.edge id t) ρ=ite3 v (den s.nd hi) (den s.nd lo) ρ)/\∀r,val s.nd r->¬ ∀ρ,den s.nd r ρ=ite3 v (den s.nd hi) (den s.nd lo) ρ):=by
 have hlev:=h.pm.level_nat hv;have g1:¬s.level (v:Int)<0:=by rw[hlev];omega
 have g2:(!(s.is (lo:Int)&&s.is (hi:Int)))=false:=by rw[is_nat hl,is_nat hh];rfl
 have g3:(!(s.under (lo:Int).toNat (s.level (v:Int))&&s.under (hi:Int).toNat (s.level (v:Int))))=false:=by
  rw[Int.toNat_natCast,Int.toNat_natCast,(h.under hl hv).2 ul,(h.under hh hv).2 uh];rfl
 unfold St.mkE;rw[jAa g1,g2,g3];simp only[jFa,jOb];by_cases heq:lo=hi
 . subst heq
   refine .inl ⟨lo,by simp,hl,λρ=>by unfold ite3;split <;> rfl⟩
 . rw[jAa (by omega)]
   simp only[Int.toNat_natCast,norm_eq];have ht:v<s.tabs.length:=by rw[h.pm.tabs];exact hv
   rw[jAb ht];cases hf:findT (s.tab v) (flipIf lo (hi%2==1)) (flipIf hi (hi%2==1)) with
   | some id =>
     obtain⟨_,n,hn,hnv,h1,h2⟩:=(h.tab v hv).find_node hf;refine .inl ⟨_,rfl,val_some hn _,λρ=>?_⟩;rw[Ka,Xc h.can.toAcyc hn,hnv,h1,h2,ite3_flip]
   | none =>
     have hunk:=h.unknown hv hl hh ul uh heq hf;have hdb:s.dead<big:=by have h1:=h.rc.dead_le;have h2:=h.slots;have:(1048577:Nat)<big:=(by decide);omega
     obtain⟨r1,r2⟩:=add_raw (s:=s) (v:=v) (lo:=flipIf lo (hi%2==1)) (hi:=flipIf hi (hi%2==1)) h.pl ht hdb;by_cases hroom:many s.pl.slots<s.pl.room
     . obtain⟨s',id,ad⟩:=r1 hroom
       obtain⟨h1,h2,h3⟩:=h.added hv (val_flipIf.2 hl) (val_flipIf.2 hh) (by rw[Qx];exact ul) (by rw[Qx];exact uh) (λe=>heq (flipIf_inj e)) (norm_even hi) hf ad;refine .inr (.inr ⟨s',id,(hi%2==1),?_,ad,h1,hroom,heq,h2,λρ=>?_,hunk⟩)
       . simp only[ad.run]
       . rw[Ka,h3,ite3_flip]
     . refine .inr (.inl ⟨?_,hroom,heq,hunk⟩)
       simp only[r2 hroom]
def SameG(G G':Gr):Prop:=∀i,(G' i).map (λn=>(n.v,n.lo,n.hi))=(G i).map (λn=>(n.v,n.lo,n.hi))
theorem SameG.symm{G G':Gr}(h:SameG G G'):SameG G' G:=λi=>(h i).symm
theorem SameG.trans{G G' G'':Gr}(h:SameG G G')(k:SameG G' G''):SameG G G'':=λi=>(k i).trans (h i)
theorem SameG.refl(G:Gr):SameG G G:=λ_=>rfl
theorem SameG.some{G G':Gr}(h:SameG G G'){i:Nat}{n:Nd}(hn:G i=some n):∃n',G' i=some n'/\n'.v=n.v/\n'.lo=n.lo/\n'.hi=n.hi:=by
 have:=h i;rw[hn] at this;cases hg:G' i with
 | none=>rw[hg] at this;cases this
 | some m=>rw[hg] at this;simp at this;exact⟨m,rfl,this⟩
theorem SameG.none{G G':Gr}(h:SameG G G'){i:Nat}(hn:G i=none):G' i=none:=by
 cases hg:G' i with
 | none=>rfl
 | some m=>obtain⟨_,h1,_⟩:=h.symm.some hg;rw[hn] at h1;cases h1
theorem SameG.isSome{G G':Gr}(h:SameG G G')(i:Nat):(G' i).isSome=(G i).isSome:=by
 have:=jNa Option.isSome (h i)
 simpa using this
theorem SameG.val{G G':Gr}(h:SameG G G'){e:Nat}:val G' e↔val G e:=by unfold _root_.Go.Proofs.YtidamcdklgfogaaGreat.G.val;rw[h.isSome]
theorem SameG.ev{G G':Gr}(h:SameG G G')(ρ:Nat->Bool):∀k e,ev G' ρ k e=ev G ρ k e
 | 0,_=>rfl
 | k+1,e=>by
   cases hn:G (e/2) with
   | none=>rw[Ye hn,Ye (h.none hn)]
   | some n =>
     obtain⟨n',hn',e1,e2,e3⟩:=h.some hn;rw[ev_some hn,ev_some hn',e1,e2,e3,h.ev ρ k]
theorem SameG.den{G G':Gr}(h:SameG G G')(e:Nat):den G' e=den G e:=funext λρ=>h.ev ρ _ e
theorem SameG.rkf{G G':Gr}(h:SameG G G')(lv:Nat->Nat):rkf lv G'=rkf lv G:=by
 funext i
 cases hn:G i with
 | none=>unfold _root_.Go.Proofs.YtidamcdklgfogaaGreat.G.rkf;rw[hn,h.none hn]
 | some n=>obtain⟨n',hn',e1,_⟩:=h.some hn;rw[Xz hn,Xz hn',e1]
theorem SameG.acyc{G G':Gr}(h:SameG G G'){r:Nat->Nat}(a:Acyc G r):Acyc G' r :=
 ⟨h.none a.g0,a.top,λi n' hn'=>by obtain⟨n,hn,e1,e2,e3⟩:=h.symm.some hn';rw[<- e2,h.val];exact a.lo i n hn,λi n' hn'=>by obtain⟨n,hn,e1,e2,e3⟩:=h.symm.some hn';rw[<- e3,h.val];exact a.hi i n hn⟩
theorem SameG.can{G G':Gr}(h:SameG G G'){r:Nat->Nat}(c:Can G r):Can G' r where
 toAcyc:=h.acyc c.toAcyc
 even i n' hn':=by obtain⟨n,hn,e1,e2,e3⟩:=h.symm.some hn';rw[<- e3];exact c.even i n hn
 ne i n' hn':=by obtain⟨n,hn,e1,e2,e3⟩:=h.symm.some hn';rw[<- e2,<- e3];exact c.ne i n hn
 can e f he hf hall:=c.can e f (h.val.1 he) (h.val.1 hf) λρ=>by rw[<- h.den,<- h.den,hall ρ]
 indl i n' hn':=by obtain⟨n,hn,e1,e2,e3⟩:=h.symm.some hn';rw[<- e1,<- e2,h.den];exact c.indl i n hn
 indh i n' hn':=by obtain⟨n,hn,e1,e2,e3⟩:=h.symm.some hn';rw[<- e1,<- e3,h.den];exact c.indh i n hn
theorem SameG.ord{G G':Gr}(h:SameG G G'){lv:Nat->Nat}{c:Nat}(o:Ord G lv c):Ord G' lv c where
 lo i n' hn' hc m' hm':=by
  obtain⟨n,hn,e1,e2,e3⟩:=h.symm.some hn';rw[<- e2] at hm';obtain⟨m,hm,f1,_⟩:=h.symm.some hm';rw[<- e1] at hc ⊢;rw[<- f1];exact o.lo i n hn hc m hm
 hi i n' hn' hc m' hm':=by
  obtain⟨n,hn,e1,e2,e3⟩:=h.symm.some hn';rw[<- e3] at hm';obtain⟨m,hm,f1,_⟩:=h.symm.some hm';rw[<- e1] at hc ⊢;rw[<- f1];exact o.hi i n hn hc m hm
theorem SameG.tab{G G':Gr}(h:SameG G G'){v:Nat}{ex:Nat->Prop}{t:List Ent}(o:TabOk G v ex t):TabOk G' v ex t :=
 o.congr (λi n hn hv hx=>by obtain⟨n',hn',e1,e2,e3⟩:=h.some hn;exact⟨hx,n',hn',e1.trans hv,e2,e3⟩) (λi n' hn' hv hx=>by obtain⟨n,hn,e1,e2,e3⟩:=h.symm.some hn';exact⟨hx,n,hn,e1.trans hv,e2.symm,e3.symm⟩)
theorem SameG.rc{G G':Gr}(h:SameG G G'){c:Nat->Nat}{N:Nat}{ext:Nat->Int}{d:Nat}(o:RC G c N ext d):RC G' c N ext d:=by
 have hin:∀id,Zy G' c N id=Zy G c N id:=λid=>Kn λi _=>by
  unfold inW;cases hn:G i with
  | none=>rw[h.none hn]
  | some n=>obtain⟨n',hn',e1,e2,e3⟩:=h.some hn;rw[hn'];simp only;unfold Zl;rw[e2,e3]
 refine⟨λi hi=>o.dom i (by rw[<- h.isSome];exact hi),λi hi=>by rw[hin];exact o.cnt i (by rw[<- h.isSome];exact hi),?_⟩;rw[o.dead];exact Kn λi _=>by unfold Kc;rw[h.isSome]
theorem same_putN{G:Gr}{id:Nat}{n m:Nd}(hn:G id=some n)(h1:m.v=n.v)(h2:m.lo=n.lo)(h3:m.hi=n.hi):SameG G (Zh G id m):=λi=>by
 unfold Zh;by_cases h:i=id
 . subst h;simp[hn,h1,h2,h3]
 . simp[h]
theorem StOk.same{B B':Nat}{s s':St}(h:StOk B s)(hv:s'.vars=s.vars)(hl:s'.lev=s.lev)(ht:s'.tabs=s.tabs)(hp:PlOk s'.pl)(hz:s'.pl.slots.length=s.pl.slots.length)(hg:SameG s.nd s'.nd)(hc:s'.cnt.length=s.cnt.length)
  (hr:RC s'.nd (Qv s') s.pl.slots.length (Qg s'.nd) s'.dead)(hb:∀i n,s'.nd i=some n->n.refs<=B'):StOk B' s':=by
 have hlv:lvf s'=lvf s:=by unfold lvf;rw[hl]
 refine⟨⟨by rw[hv];exact h.pm.le,by rw[hl,hv];exact h.pm.lev,by rw[ht,hv];exact h.pm.tabs,by rw[hv,hlv];exact h.pm.lv,by rw[hv,hlv];exact h.pm.vl⟩,hp,?_,?_,?_,?_,?_,?_,by rw[hz];exact hr,hb⟩
 . rw[hlv,hg.rkf];exact hg.can h.can
 . intro i n' hn'
   obtain⟨n,hn,e1,_⟩:=hg.symm.some hn';rw[hv,<- e1];exact h.vars i n hn
 . rw[hlv];exact hg.ord h.ord
 . intro v hvv
   rw[hv] at hvv;unfold St.tab;rw[ht];exact hg.tab (h.tab v hvv)
 . intro i hi
   rw[hc];exact h.cl i (by rw[<- hg.isSome];exact hi)
 . rw[hc];exact h.clen
theorem StOk.mono{B B':Nat}{s:St}(h:StOk B s)(hb:B<=B'):StOk B' s :=
 h.same rfl rfl rfl h.pl rfl (SameG.refl _) rfl h.rc λi n hn=>by have:=h.refs i n hn;omega
theorem refsf_put{G:Gr}{id:Nat}{n m:Nd}(hn:G id=some n):Qg (Zh G id m)=Qt (Qg G) id ((m.refs:Int)-n.refs):=by
 funext i
 unfold Qg Zh Qt;by_cases h:i=id
 . subst h;simp[hn];omega
 . simp[h]
theorem StOk.top{B:Nat}{s:St}(_:StOk B s)(f:Nat):0<fuel/\(f/2≠0->rkf (lvf s) s.nd (f/2)+1<fuel):=⟨by decide,λ_=>by have:=rkf_top (lvf s) s.nd (f/2);omega⟩
structure Reref (s s':St) (id:Nat) (d:Int):Prop where
 vars:s'.vars=s.vars
 lev:s'.lev=s.lev
 tabs:s'.tabs=s.tabs
 room:s'.pl.room=s.pl.room
 many:many s'.pl.slots=many s.pl.slots
 same:SameG s.nd s'.nd
 refs:∀i,(s.nd i).isSome=true->Qg s'.nd i=Qt (Qg s.nd) id d i
theorem StOk.hold{B:Nat}{s:St}(h:StOk B s){f:Nat}(hf:val s.nd f)(hB:B<1152921504606846976):∃s',s.hold f=some (s',0)/\StOk (B+1) s'/\Reref s s' (f/2) 1:=by
 unfold St.hold;rw[is_nat hf];simp only[kC,jFa,jOb,Int.toNat_natCast];cases hn:s.nd (f/2) with
 | none =>
   refine⟨s,rfl,h.mono (by omega),rfl,rfl,rfl,rfl,rfl,SameG.refl _,λi hi=>?_⟩;unfold Qt;rw[jAa (by rintro rfl;rw[hn] at hi;cases hi)]
 | some n =>
   have hnb:=h.refs _ n hn;have hb2:1152921504606846976+2097300<big:=by decide
   have hsl:=h.slots;simp only;rw[jAb (by omega)];obtain⟨p1,p2,p3,p4,p5⟩:=h.pl.put (m:={ n with refs:=n.refs+1 }) hn;have hnd:({ s with pl:=s.pl.put (f/2) { n with refs:=n.refs+1 } }:St).nd=Zh s.nd (f/2) { n with refs:=n.refs+1 }:=p2;have hsame:=same_putN (m:={ n with refs:=n.refs+1 }) hn rfl rfl rfl;have hrk:(rkf (lvf s) s.nd (f/2))<=70:=rkf_le _ _ _;obtain⟨s',m1,m2,m3,_⟩:=more_ok (r:=rkf (lvf s) s.nd) fuel { s with pl:=s.pl.put (f/2) { n with refs:=n.refs+1 } } f (Qg s.nd) B (by rw[hnd];exact hsame.acyc h.can.toAcyc) (by rw[hnd];exact hsame.rc h.rc)
    (by rw[hnd];intro i hi;exact h.cl i (by rw[<- hsame.isSome];exact hi)) (by rw[hnd];exact hsame.val.2 hf) (h.top f) (λi=>by
      unfold Qg;split
      . rename_i m hm;have:=h.refs i m hm;omega
      . omega) (by omega)
   have hnd':s'.nd=Zh s.nd (f/2) { n with refs:=n.refs+1 }:=by rw[m2.nd];exact hnd
   have href:Qg s'.nd=Qt (Qg s.nd) (f/2) 1:=by rw[hnd',refsf_put hn];simp;congr 1;omega
   refine⟨s',by rw[m1];rfl,?_,⟨m2.vars,m2.lev,m2.tabs,by rw[m2.pl];exact p3,by rw[m2.pl];exact p4,by rw[hnd'];exact hsame,λi _=>by rw[href]⟩⟩;refine h.same m2.vars m2.lev m2.tabs (by rw[m2.pl];exact p1) (by rw[m2.pl];exact p5) (by rw[hnd'];exact hsame) m2.len ?_ λi m hm=>?_
   . rw[href,hnd',<- hnd];exact m3
   . rw[hnd'] at hm
     unfold Zh at hm;split at hm
     . cases hm;simp only;omega
     . have:=h.refs i m hm;omega
theorem StOk.drop{B:Nat}{s:St}(h:StOk B s){f:Nat}(hf:val s.nd f) :
  (Qg s.nd (f/2)=0->s.drop f=some (s,if f/2=0 then 0 else 5))/\(0<Qg s.nd (f/2)->∃s',s.drop f=some (s',0)/\StOk B s'/\Reref s s' (f/2) (-1)):=by
 unfold St.drop;rw[is_nat hf];simp only[kC,jFa,jOb,Int.toNat_natCast];cases hn:s.nd (f/2) with
 | none =>
   have h0:f/2=0:=by
    rcases hf with h0|h0
    . exact h0
    . rw[hn] at h0;cases h0
   refine⟨λ_=>by rw[jAb h0],λhx=>?_⟩;unfold Qg at hx;rw[hn] at hx;simp at hx
 | some n =>
   have h0:f/2≠0:=λe=>by rw[e,h.can.g0] at hn;cases hn
   have hr:Qg s.nd (f/2)=n.refs:=by unfold Qg;rw[hn]
   rw[hr];refine⟨λhx=>by simp only;rw[jAb (by omega),jAa h0],λhx=>?_⟩;have hsl:=h.slots;simp only;rw[jAa (by omega)];obtain⟨p1,p2,p3,p4,p5⟩:=h.pl.put (m:={ n with refs:=n.refs-1 }) hn;have hnd:({ s with pl:=s.pl.put (f/2) { n with refs:=n.refs-1 } }:St).nd=Zh s.nd (f/2) { n with refs:=n.refs-1 }:=p2;have hsame:=same_putN (m:={ n with refs:=n.refs-1 }) hn rfl rfl rfl;have hb2:1048577<big:=by decide
   obtain⟨s',m1,m2,m3,_⟩:=less_ok (r:=rkf (lvf s) s.nd) fuel { s with pl:=s.pl.put (f/2) { n with refs:=n.refs-1 } } f (Qg s.nd) (by rw[hnd];exact hsame.acyc h.can.toAcyc) (by rw[hnd];exact hsame.rc h.rc)
    (by rw[hnd];intro i hi;exact h.cl i (by rw[<- hsame.isSome];exact hi)) (by rw[hnd];exact hsame.val.2 hf) (h.top f) (λi=>by
      unfold Qg;split <;> omega) (by rw[hr];omega) (by omega)
   have hnd':s'.nd=Zh s.nd (f/2) { n with refs:=n.refs-1 }:=by rw[m2.nd];exact hnd
   have href:Qg s'.nd=Qt (Qg s.nd) (f/2) (-1):=by rw[hnd',refsf_put hn];congr 1;simp only;omega
   refine⟨s',by rw[m1];rfl,?_,⟨m2.vars,m2.lev,m2.tabs,by rw[m2.pl];exact p3,by rw[m2.pl];exact p4,by rw[hnd'];exact hsame,λi _=>by rw[href]⟩⟩;refine h.same m2.vars m2.lev m2.tabs (by rw[m2.pl];exact p1) (by rw[m2.pl];exact p5) (by rw[hnd'];exact hsame) m2.len ?_ λi m hm=>?_
   . rw[href,hnd',<- hnd];exact m3
   . rw[hnd'] at hm
     unfold Zh at hm;split at hm
     . cases hm;have:=h.refs _ _ hn;simp only;omega
     . exact h.refs i m hm
end G
namespace G
theorem Ya:∀(l:List (Option Nd)) (k i:Nat) (n:Nd),(i,n)∈Qn k l↔k<=i/\l[i-k]?=some (some n)
 | [],k,i,n=>by simp[Qn]
 | none::l,k,i,n=>by
   unfold Qn;rw[Ya l];by_cases hi:k=i
   . subst hi;simp;intro h;omega
   . by_cases hk:k<i
     . rw[show i-k=(i-(k+1))+1 by omega]
       simp only[List.getElem?_cons_succ];constructor <;> rintro⟨h1,h2⟩ <;> exact⟨by omega,h2⟩
     . constructor <;> rintro⟨h1,h2⟩ <;> omega
 | some m::l,k,i,n=>by
   unfold Qn;rw[jBa,Ya l];by_cases hi:k=i
   . subst hi
     constructor
     . rintro (h1|⟨h1,h2⟩)
       . injection h1 with h1 h2;subst h2;simp
       . omega
     . rintro⟨h1,h2⟩
       simp at h2
       exact .inl (by rw[h2])
   . by_cases hk:k<i
     . rw[show i-k=(i-(k+1))+1 by omega]
       simp only[List.getElem?_cons_succ];constructor
       . rintro (h1|⟨h1,h2⟩)
         . injection h1 with h1;omega
         . exact⟨by omega,h2⟩
       . rintro⟨h1,h2⟩
         exact .inr ⟨by omega,h2⟩
     . constructor
       . rintro (h1|⟨h1,h2⟩)
         . injection h1 with h1;omega
         . omega
       . rintro⟨h1,h2⟩;omega
theorem nodup_nodesFrom:∀(l:List (Option Nd)) (k:Nat),((Qn k l).map (·.1)).Nodup
 | [],k=>by simp[Qn]
 | none::l,k=>nodup_nodesFrom l (k+1)
 | some m::l,k=>by
   unfold Qn;rw[jDb,jMa];refine⟨λhm=>?_,nodup_nodesFrom l (k+1)⟩;obtain⟨⟨i,n⟩,h1,h2⟩:=jF.1 hm
   have:=((Ya l (k+1) i n).1 h1).1;simp only at h2;omega
theorem length_nodesFrom:∀(l:List (Option Nd)) (k:Nat),(Qn k l).length=many l
 | [],k=>rfl
 | none::l,k=>by unfold Qn;rw[length_nodesFrom l];simp[many]
 | some m::l,k=>by unfold Qn;rw[yB,length_nodesFrom l];simp[many]
theorem PlOk.cons{p:Pl}(h:PlOk p):p.slots=none::p.slots.drop 1:=by
 have:=h.s0;cases hs:p.slots with
 | nil=>rw[hs] at this;cases this
 | cons a l=>rw[hs] at this;simp at this;subst this;rfl
theorem mem_nodes{s:St}{id:Nat}{n:Nd}:(id,n)∈s.nodes↔s.nd id=some n:=by
 unfold St.nodes St.nd;rw[Ya,Pl.nd_some];constructor
 . rintro⟨h1,h2⟩
   rw[kHa,show 1+(id-1)=id by omega] at h2;exact⟨by omega,h2⟩
 . rintro⟨h1,h2⟩
   refine⟨by omega,?_⟩;rw[kHa,show 1+(id-1)=id by omega];exact h2
theorem nodup_nodes(s:St):(s.nodes.map (·.1)).Nodup:=nodup_nodesFrom _ _
theorem length_nodes{s:St}(h:PlOk s.pl):s.nodes.length=many s.pl.slots:=by
 unfold St.nodes;rw[length_nodesFrom];conv=>rhs;rw[h.cons]
 simp[many]
theorem sumTo_front{f:Nat->Int}:∀n,Kk f (n+1)=f 0+Kk (λi=>f (i+1)) n
 | 0=>by simp[Kk]
 | n+1=>by
   show Kk f (n+1)+f (n+1)=f 0+(Kk (λi=>f (i+1)) n+f (n+1))
   rw[sumTo_front n];omega
theorem dead_nodesFrom(c:Nat->Nat):∀(l:List (Option Nd)) (k:Nat),(((Qn k l).filter λp=>c p.1==0).length:Int)=Kk (λi=>if (l.getD i none).isSome=true/\c (k+i)=0 then 1 else 0) l.length
 | [],k=>rfl
 | none::l,k=>by
   unfold Qn;rw[dead_nodesFrom c l (k+1),yB,sumTo_front];simp only[List.getD_cons_zero,Option.isSome_none,jFa,false_and,jOb,kZa];rw[Int.zero_add];refine Kn λi _=>?_
   rw[show k+1+i=k+(i+1) by omega]
 | some m::l,k=>by
   unfold Qn;have ih:=dead_nodesFrom c l (k+1);rw[yB,sumTo_front];simp only[List.getD_cons_zero,Option.isSome_some,kS,kZa,Nat.add_zero];have e:Kk (λi=>if (l.getD i none).isSome=true/\c (k+(i+1))=0 then (1:Int) else 0) l.length=Kk (λi=>if (l.getD i none).isSome=true/\c (k+1+i)=0 then 1 else 0) l.length :=
    Kn λi _=>by rw[show k+1+i=k+(i+1) by omega]
   rw[e,<- ih,kLa];by_cases hc:c k=0
   . simp[hc];omega
   . simp[hc]
theorem dead_length{s:St}(h:PlOk s.pl)(c:Nat->Nat):((s.nodes.filter λp=>c p.1==0).length:Int)=Kk (Kc s.nd c) s.pl.slots.length:=by
 unfold St.nodes;rw[dead_nodesFrom];have hc:=h.cons;have hl:s.pl.slots.length=(s.pl.slots.drop 1).length+1:=jNa List.length hc;rw[hl,sumTo_front];have e0:Kc s.nd c 0=0:=by unfold Kc St.nd;rw[Pl.nd_zero];simp
 rw[e0,Int.zero_add];refine Kn λi _=>?_
 have e1:s.nd (i+1)=(s.pl.slots.drop 1).getD i none:=by
  unfold St.nd Pl.nd;rw[jAa (by omega)];simp only[yD,kHa];rw[show 1+i=i+1 by omega]
 unfold Kc;rw[e1,show 1+i=i+1 by omega]
theorem goneOf_ok{s:St}:∀l:List (Nat×Nd),(∀p∈l,p.1<s.cnt.length)->s.goneOf l=some (l.filter λp=>Qv s p.1==0)
 | [],_=>rfl
 | (id,n)::l,h=>by
   have h1:=h (id,n) (.head _);unfold St.goneOf;rw[cntf_get h1,goneOf_ok l λp hp=>h p (.tail _ hp)];simp only[Option.map_some,kLa];by_cases hc:Qv s id=0
   . simp[hc]
   . simp[hc]
structure Away (s s':St) (ids:List Nat):Prop where
 pl:PlOk s'.pl
 room:s'.pl.room=s.pl.room
 many:many s'.pl.slots+ids.length=many s.pl.slots
 slots:s'.pl.slots.length=s.pl.slots.length
 nd:s'.nd=λi=>if i∈ids then none else s.nd i
 tab:∀v,v<s.tabs.length->TabOk s'.nd v (λ_=>False) (s'.tab v)
 tabs:s'.tabs.length=s.tabs.length
 vars:s'.vars=s.vars
 lev:s'.lev=s.lev
 cnt:s'.cnt=s.cnt
 dead:s'.dead=s.dead
theorem away_ok:∀(l:List (Nat×Nd)) (s:St),PlOk s.pl->Uniq s.nd->(∀v,v<s.tabs.length->TabOk s.nd v (λ_=>False) (s.tab v))->(∀p∈l,s.nd p.1=some p.2/\p.2.v<s.tabs.length)->(l.map (·.1)).Nodup ->
  ∃s',s.away l=some s'/\Away s s' (l.map (·.1))
 | [],s,hp,hu,ht,_,_=>⟨s,rfl,hp,rfl,rfl,rfl,by simp,ht,rfl,rfl,rfl,rfl,rfl⟩
 | (id,n)::l,s,hp,hu,ht,hl,hd=>by
   obtain⟨hn,hv⟩:=hl (id,n) (.head _);simp only at hn hv;rw[jDb,jMa] at hd;obtain⟨g1,g2,g3,g4,g5⟩:=hp.give hn;have hnd:({ s with tabs:=s.tabs.set n.v (cutT (s.tab n.v) n.lo n.hi),pl:=s.pl.give id }:St).nd=λi=>if i=id then none else s.nd i:=g2
   have hne:∀p∈l,p.1≠id:=λp hp' e=>hd.1 (e ▸ jF.2 ⟨p,hp',rfl⟩)
   have hold:∀i m,(if i=id then none else s.nd i)=some m->s.nd i=some m/\i≠id:=λi m hm=>by
    by_cases he:i=id
    . rw[jAb he] at hm;cases hm
    . rw[jAa he] at hm;exact⟨hm,he⟩
   obtain⟨s',r1,r2⟩:=away_ok l { s with tabs:=s.tabs.set n.v (cutT (s.tab n.v) n.lo n.hi),pl:=s.pl.give id } g1
    (by
      rw[hnd];intro i j a b ha hb;exact hu i j a b (hold i a ha).1 (hold j b hb).1)
    (by
      intro x hx;simp only[jJa] at hx;rw[hnd];unfold St.tab;rw[Zm _ _ _ _ _ hv];split
      . rename_i he
        subst he;refine (ht n.v hv).cut hu hn rfl (λm hm _=>absurd rfl (hold id m hm).2) λi m hi _=>by rw[jAa hi]
      . rename_i he
        refine (ht x hx).congr (λi m hm hmv hxx=>⟨hxx,m,?_,hmv,rfl,rfl⟩) (λi m hm hmv hxx=>⟨hxx,m,(hold i m hm).1,hmv,rfl,rfl⟩);rw[jAa]
        . exact hm
        . rintro rfl
          rw[hn] at hm;cases hm;exact he hmv.symm)
    (by
      intro p hp';obtain⟨h1,h2⟩:=hl p (.tail _ hp');refine⟨?_,by simpa using h2⟩;rw[hnd];simp only;rw[jAa (hne p hp')];exact h1) hd.2
   refine⟨s',?_,r2.pl,by rw[r2.room];exact g3,?_,by rw[r2.slots];exact g5,?_,λv hv'=>r2.tab v (by simpa using hv'),by rw[r2.tabs];simp,r2.vars,r2.lev,r2.cnt,r2.dead⟩
   . unfold St.away
     rw[jAb hv];exact r1
   . have:=r2.many
     simp only[jDb,yB] at this ⊢;omega
   . rw[r2.nd,hnd]
     funext i
     simp only[jDb,jBa];by_cases h1:i∈l.map (·.1)
     . rw[jAb h1,jAb (.inr h1)]
     . rw[jAa h1]
       by_cases h2:i=id
       . rw[jAb h2,jAb (.inl h2)]
       . rw[jAa h2,jAa (by rintro (h|h);exact h2 h;exact h1 h)]
theorem Can.restrict{G G':Gr}{r r':Nat->Nat}(h:Can G r)(hs:∀i n,G' i=some n->G i=some n)(hk:∀i n,G' i=some n->val G' n.lo/\val G' n.hi)(hr:∀i,G' i≠none->r' i=r i)(ht:∀i,r' i+2<fuel) :
  Can G' r'/\∀e,val G' e->∀ρ,den G' e ρ=den G e ρ:=by
 have g0:G' 0=none:=by
  cases hg:G' 0 with
  | none=>rfl
  | some n=>have:=hs 0 n hg;rw[h.g0] at this;cases this
 have hv:∀e,val G' e->val G e:=λe he=>by
  rcases he with h0|h0
  . exact .inl h0
  . obtain⟨n,hn⟩:=yF.1 h0
    exact .inr (by rw[hs _ n hn];rfl)
 have rk:∀e,val G' e->e/2≠0->r' (e/2)=r (e/2):=λe he h0=>hr _ λhn=>by have:=he.resolve_left h0;rw[hn] at this;cases this
 have ac:Acyc G' r':=by
  refine⟨g0,ht,λi n hn=>?_,λi n hn=>?_⟩
  . obtain⟨h1,h2⟩:=hk i n hn
    refine⟨h1,λh0=>?_⟩;rw[rk _ h1 h0,hr i (by rw[hn];simp)];exact (h.lo i n (hs i n hn)).2 h0
  . obtain⟨h1,h2⟩:=hk i n hn
    refine⟨h2,λh0=>?_⟩;rw[rk _ h2 h0,hr i (by rw[hn];simp)];exact (h.hi i n (hs i n hn)).2 h0
 have hd:∀e,val G' e->∀ρ,den G' e ρ=den G e ρ:=λe he ρ=>(den_sub ac h.toAcyc (λi n hn=>⟨n,hs i n hn,rfl,rfl,rfl⟩) he ρ).symm
 have hdf:∀e,val G' e->den G' e=den G e:=λe he=>funext (hd e he)
 exact⟨{ toAcyc:=ac,even:=λi n hn=>h.even i n (hs i n hn),ne:=λi n hn=>h.ne i n (hs i n hn),can:=λe f he hf hall=>h.can e f (hv e he) (hv f hf) λρ=>by rw[<- hd e he,<- hd f hf,hall ρ],
          indl:=λi n hn=>by rw[hdf _ (hk i n hn).1];exact h.indl i n (hs i n hn),indh:=λi n hn=>by rw[hdf _ (hk i n hn).2];exact h.indh i n (hs i n hn) },hd⟩
theorem RC.kid_live{G:Gr}{c:Nat->Nat}{N:Nat}{ext:Nat->Int}{d:Nat}(h:RC G c N ext d)(he:∀i,0<=ext i){i:Nat}{n:Nd}(hn:G i=some n)(hc:0<c i){k:Nat}(hk:n.lo/2=k\/n.hi/2=k)(hs:(G k).isSome=true):0<c k:=by
 have h1:=h.cnt k hs;have h2:=sumTo_ge (inW_nonneg G c k) (h.dom i (by rw[hn];rfl));have h3:inW G c k i=Zl n k:=by unfold inW;rw[hn];simp[hc]
 have h4:1<=Zl n k:=by unfold Zl;rcases hk with hk|hk <;> rw[jAb hk] <;> split <;> omega
 have h5:=he k;unfold Zy at h1;omega
theorem Xr(G:Gr)(i:Nat):0<=Qg G i:=by unfold Qg;split <;> omega
structure Coll (B:Nat) (s s':St):Prop where
 ok:StOk B s'
 dead:s'.dead=0
 many:many s'.pl.slots+s.dead=many s.pl.slots
 room:s'.pl.room=s.pl.room
 vars:s'.vars=s.vars
 lev:s'.lev=s.lev
 nd:s'.nd=λi=>if Qv s i=0 then none else s.nd i
 cnt:s'.cnt=s.cnt
 den:∀e,val s'.nd e->∀ρ,den s'.nd e ρ=den s.nd e ρ
theorem RC.no_dead{G:Gr}{c:Nat->Nat}{N:Nat}{ext:Nat->Int}(h:RC G c N ext 0){i:Nat}(hi:(G i).isSome=true):0<c i:=by
 have h1:=h.dead;have h2:=sumTo_ge (deadW_nonneg G c) (h.dom i hi);rcases kQb (c i) with h3|h3
 . have:Kc G c i=1:=by unfold Kc;rw[jAb ⟨hi,h3⟩]
   omega
 . exact h3
theorem StOk.liveG{B:Nat}{s:St}(_:StOk B s):∀i n,(if Qv s i=0 then none else s.nd i)=some n->s.nd i=some n/\0<Qv s i:=λi n hn=>by
 by_cases hc:Qv s i=0
 . rw[jAb hc] at hn;cases hn
 . rw[jAa hc] at hn;exact⟨hn,by omega⟩
theorem StOk.live_val{B:Nat}{s:St}(h:StOk B s){i:Nat}{n:Nd}(hn:s.nd i=some n)(hc:0<Qv s i){k:Nat}(hk:k=n.lo\/k=n.hi):val (λi=>if Qv s i=0 then none else s.nd i) k:=by
 have hv:val s.nd k:=by rcases hk with rfl|rfl;exact (h.kids i n hn).1;exact (h.kids i n hn).2
 rcases hv with h0|h0
 . exact .inl h0
 . refine .inr ?_
   have:=h.rc.kid_live (Xr s.nd) hn hc (k:=k/2) (by rcases hk with rfl|rfl;exact .inl rfl;exact .inr rfl) h0;simp only;rw[jAa (by omega)];exact h0
theorem StOk.collect{B:Nat}{s:St}(h:StOk B s):∃s',s.collect=some (s',s.dead)/\Coll B s s':=by
 unfold St.collect;by_cases hd:s.dead=0
 . rw[jAb hd]
   refine⟨s,by rw[hd],h,hd,by omega,rfl,rfl,rfl,?_,rfl,λ_ _ _=>rfl⟩;funext i
   split
   . rename_i hc
     cases hn:s.nd i with
     | none=>rfl
     | some n =>
       have hr:=h.rc;rw[hd] at hr
       have:=hr.no_dead (i:=i) (by rw[hn];rfl);omega
   . rfl
 . rw[jAa hd,goneOf_ok _ λp hp=>h.cl p.1 (by rw[mem_nodes.1 hp];rfl)]
   have hlen:=dead_length h.pl (Qv s);rw[<- h.rc.dead] at hlen;have hlen:(s.nodes.filter λp=>Qv s p.1==0).length=s.dead:=by omega
   obtain⟨s',r1,r2⟩:=away_ok (s.nodes.filter λp=>Qv s p.1==0) s h.pl h.can.uniq (λv hv=>h.tab v (by rw[<- h.pm.tabs];exact hv)) (λp hp=>by
    have h1:=mem_nodes.1 (jQ.1 hp).1;exact⟨h1,by rw[h.pm.tabs];exact h.vars _ _ h1⟩) (qC (List.Sublist.map _ kO) (nodup_nodes s))
   have hmem:∀i,i∈(s.nodes.filter λp=>Qv s p.1==0).map (·.1)↔(s.nd i).isSome=true/\Qv s i=0:=λi=>by
    constructor
    . intro hi
      obtain⟨⟨j,n⟩,h1,rfl⟩:=jF.1 hi;obtain⟨h2,h3⟩:=jQ.1 h1;exact⟨by rw[mem_nodes.1 h2];rfl,by simpa using h3⟩
    . rintro⟨h1,h2⟩
      obtain⟨n,hn⟩:=yF.1 h1;exact jF.2 ⟨(i,n),jQ.2 ⟨mem_nodes.2 hn,by simpa using h2⟩,rfl⟩
   have hnd:s'.nd=λi=>if Qv s i=0 then none else s.nd i:=by
    rw[r2.nd];funext i
    by_cases hc:Qv s i=0
    . rw[jAb hc]
      split
      . rfl
      . rename_i hi
        cases hn:s.nd i with
        | none=>rfl
        | some n=>exact absurd ((hmem i).2 ⟨by rw[hn];rfl,hc⟩) hi
    . rw[jAa hc,jAa λhi=>hc ((hmem i).1 hi).2]
   have hl:∀i n,s'.nd i=some n->s.nd i=some n/\0<Qv s i:=λi n hn=>by rw[hnd] at hn;exact h.liveG i n hn
   have hk:∀i n,s'.nd i=some n->val s'.nd n.lo/\val s'.nd n.hi:=λi n hn=>by
    obtain⟨h1,h2⟩:=hl i n hn;rw[hnd];exact⟨h.live_val h1 h2 (.inl rfl),h.live_val h1 h2 (.inr rfl)⟩
   have hlv:lvf s'=lvf s:=by unfold lvf;rw[r2.lev]
   have hc':Qv s'=Qv s:=by unfold Qv;rw[r2.cnt]
   obtain⟨hcan,hden⟩:=h.can.restrict (λi n hn=>(hl i n hn).1) hk (r':=rkf (lvf s) s'.nd) (λi hi=>by
    obtain⟨n,hn⟩:=Option.ne_none_iff_exists'.1 hi;rw[Xz hn,Xz (hl i n hn).1]) (rkf_top _ _)
   dsimp only
   rw[r1];refine⟨{ s' with dead:=0 },by simp only[Option.map_some,hlen],⟨⟨by rw[show ({ s' with dead:=0 }:St).vars=s'.vars from rfl,r2.vars];exact h.pm.le,?_,?_,?_,?_⟩,r2.pl,?_,?_,?_,?_,?_,?_,?_,?_⟩,rfl,?_,r2.room,r2.vars,r2.lev,hnd,r2.cnt,hden⟩
   . show s'.lev.length=s'.vars.length
     rw[r2.lev,r2.vars];exact h.pm.lev
   . show s'.tabs.length=s'.vars.length
     rw[r2.tabs,r2.vars];exact h.pm.tabs
   . show ∀v,v<s'.vars.length->lvf s' v<s'.vars.length/\s'.vars.getD (lvf s' v) 0=v
     rw[r2.vars,hlv];exact h.pm.lv
   . show ∀v,v<s'.vars.length->s'.vars.getD v 0<s'.vars.length/\lvf s' (s'.vars.getD v 0)=v
     rw[r2.vars,hlv];exact h.pm.vl
   . show Can s'.nd (rkf (lvf s') s'.nd)
     rw[hlv];exact hcan
   . show ∀i n,s'.nd i=some n->n.v<s'.vars.length
     intro i n hn;rw[r2.vars];exact h.vars i n (hl i n hn).1
   . show Ord s'.nd (lvf s') 0
     rw[hlv];exact⟨λi n hn hc m hm=>h.ord.lo i n (hl i n hn).1 hc m (hl _ m hm).1,λi n hn hc m hm=>h.ord.hi i n (hl i n hn).1 hc m (hl _ m hm).1⟩
   . show ∀v,v<s'.vars.length->TabOk s'.nd v (λ_=>False) (s'.tab v)
     intro v hv;exact r2.tab v (by rw[h.pm.tabs,<- r2.vars];exact hv)
   . show ∀i,(s'.nd i).isSome=true->i<s'.cnt.length
     intro i hi;obtain⟨n,hn⟩:=yF.1 hi;rw[r2.cnt];exact h.cl i (by rw[(hl i n hn).1];rfl)
   . show s'.cnt.length<=1048577
     rw[r2.cnt];exact h.clen
   . show RC s'.nd (Qv s') s'.pl.slots.length (Qg s'.nd) 0
     rw[hc',r2.slots];have hin:∀x,Zy s'.nd (Qv s) s.pl.slots.length x=Zy s.nd (Qv s) s.pl.slots.length x:=λx=>Kn λi _=>by
      unfold inW;rw[hnd];simp only;by_cases hc:Qv s i=0
      . rw[jAb hc]
        cases s.nd i with
        | none=>rfl
        | some n=>simp[hc]
      . rw[jAa hc]
     refine⟨λi hi=>?_,λi hi=>?_,?_⟩
     . obtain⟨n,hn⟩:=yF.1 hi
       exact h.rc.dom i (by rw[(hl i n hn).1];rfl)
     . obtain⟨n,hn⟩:=yF.1 hi
       rw[hin]
       have:=h.rc.cnt i (by rw[(hl i n hn).1];rfl);unfold Qg at this ⊢;rw[hn];rw[(hl i n hn).1] at this;exact this
     . refine (sumTo_zero (λi=>?_) _).symm
       unfold Kc;rw[jAa];rintro⟨h1,h2⟩;obtain⟨n,hn⟩:=yF.1 h1
       have:=(hl i n hn).2;omega
   . show ∀i n,s'.nd i=some n->n.refs<=B
     intro i n hn;exact h.refs i n (hl i n hn).1
   . have:=r2.many
     rw[jHb,hlen] at this;exact this
end G
namespace G
theorem mem_ins{x a:Nat}:∀{l:List Nat},a∈ins x l↔a=x\/a∈l
 | []=>by simp[ins]
 | y::l=>by
   unfold ins;split
   . simp
   . rw[jBa,mem_ins (l:=l),jBa]
     constructor
     . rintro (h|h|h)
       . exact .inr (.inl h)
       . exact .inl h
       . exact .inr (.inr h)
     . rintro (h|h|h)
       . exact .inr (.inl h)
       . exact .inl h
       . exact .inr (.inr h)
theorem mem_isort{a:Nat}:∀{l:List Nat},a∈isort l↔a∈l
 | []=>by simp[isort]
 | y::l=>by unfold isort;rw[mem_ins,mem_isort (l:=l),jBa]
theorem nodup_ins{x:Nat}:∀{l:List Nat},l.Nodup->x∉l->(ins x l).Nodup
 | [],_,_=>by simp[ins]
 | y::l,h,hx=>by
   unfold ins;split
   . exact jMa.2 ⟨hx,h⟩
   . rw[jMa] at h ⊢
     rw[jBa,not_or] at hx;refine⟨λhm=>?_,nodup_ins h.2 hx.2⟩;rcases mem_ins.1 hm with h1|h1
     . exact hx.1 h1.symm
     . exact h.1 h1
theorem nodup_isort:∀{l:List Nat},l.Nodup->(isort l).Nodup
 | [],_=>by simp[isort]
 | y::l,h=>by
   rw[jMa] at h;exact nodup_ins (nodup_isort h.2) λhm=>h.1 (mem_isort.1 hm)
theorem turnOf_ok{s:St}{y:Nat}:∀ids:List Nat,(∀id∈ids,(s.nd id).isSome=true)->∃l,s.turnOf y ids=some l /\
  (∀t∈l,t.id∈ids/\s.nd t.id=some t.n/\s.split t.n.lo y=(t.ll,t.lh)/\s.split t.n.hi y=(t.hl,t.hh)/\(t.ll≠t.lh\/t.hl≠t.hh)) /\
  (∀id∈ids,∀n,s.nd id=some n->((s.split n.lo y).1≠(s.split n.lo y).2\/(s.split n.hi y).1≠(s.split n.hi y).2)->id∈l.map (·.id))/\(l.map (·.id)).Sublist ids
 | [],_=>⟨[],rfl,by simp,by simp,by simp⟩
 | id::ids,h=>by
   obtain⟨n,hn⟩:=yF.1 (h id (.head _));obtain⟨l,h1,h2,h3,h4⟩:=turnOf_ok ids λi hi=>h i (.tail _ hi)
   unfold St.turnOf;rw[hn,h1];simp only[Option.map_some];by_cases hc:(s.split n.lo y).1≠(s.split n.lo y).2\/(s.split n.hi y).1≠(s.split n.hi y).2
   . rw[jAb hc]
     refine⟨_,rfl,λt ht=>?_,λi hi m hm hc'=>?_,?_⟩
     . rcases jBa.1 ht with rfl|ht
       . exact⟨.head _,hn,rfl,rfl,hc⟩
       . obtain⟨e1,e2⟩:=h2 t ht
         exact⟨.tail _ e1,e2⟩
     . rcases jBa.1 hi with rfl|hi
       . exact .head _
       . exact .tail _ (h3 i hi m hm hc')
     . simpa using h4
   . rw[jAa hc]
     refine⟨l,rfl,λt ht=>?_,λi hi m hm hc'=>?_,h4.trans (List.sublist_cons_self _ _)⟩
     . obtain⟨e1,e2⟩:=h2 t ht
       exact⟨.tail _ e1,e2⟩
     . rcases jBa.1 hi with rfl|hi
       . rw[hn] at hm
         cases hm;exact absurd hc' hc
       . exact h3 i hi m hm hc'
def Low(G:Gr)(lv:Nat->Nat)(c e:Nat):Prop:=val G e/\∀m,G (e/2)=some m->c<lv m.v
theorem Low.flipIf{G:Gr}{lv:Nat->Nat}{c e:Nat}(h:Low G lv c e)(b:Bool):Low G lv c (flipIf e b):=⟨val_flipIf.2 h.1,by rw[Qx];exact h.2⟩
theorem split_eq(s:St)(f y:Nat):s.split f y=match s.nd (f/2) with|none=>(f,f)|some n=>if n.v=y then (G.flipIf n.lo (f%2==1),G.flipIf n.hi (f%2==1)) else (f,f):=by
 unfold St.split St.at_;cases s.nd (f/2) with
 | none=>rfl
 | some n=>rfl
theorem StOk.split{B:Nat}{s:St}(h:StOk B s){k y:Nat}(hy:y<s.vars.length)(hk:lvf s y=k+1){f:Nat}(hf:Low s.nd (lvf s) k f) :
  Low s.nd (lvf s) (k+1) (s.split f y).1/\Low s.nd (lvf s) (k+1) (s.split f y).2/\(∀ρ,den s.nd f ρ=ite3 y (den s.nd (s.split f y).2) (den s.nd (s.split f y).1) ρ) /\
  (f%2=0->(s.split f y).2%2=0)/\((s.split f y).1=(s.split f y).2->Low s.nd (lvf s) (k+1) f):=by
 rw[split_eq];have hself:∀ρ,den s.nd f ρ=ite3 y (den s.nd f) (den s.nd f) ρ:=λρ=>by unfold ite3;split <;> rfl
 cases hn:s.nd (f/2) with
 | none =>
   have hl:Low s.nd (lvf s) (k+1) f:=⟨hf.1,by rw[hn];simp⟩;exact⟨hl,hl,hself,λh=>h,λ_=>hl⟩
 | some n =>
   simp only;by_cases hv:n.v=y
   . rw[jAb hv]
     have l1:Low s.nd (lvf s) (k+1) n.lo:=⟨(h.kids _ n hn).1,λm hm=>by have:=h.ord.lo _ n hn (jC _) m hm;rw[hv] at this;omega⟩;have l2:Low s.nd (lvf s) (k+1) n.hi:=⟨(h.kids _ n hn).2,λm hm=>by have:=h.ord.hi _ n hn (jC _) m hm;rw[hv] at this;omega⟩;refine⟨l1.flipIf _,l2.flipIf _,λρ=>?_,λhe=>?_,λhe=>absurd (flipIf_inj he) (h.can.ne _ n hn)⟩
     . rw[<- ite3_flip (t:=f%2==1)]
       simp only[flipIf_flipIf,Bool.xor_self];rw[<- edge_of f,Ka,Xc h.can.toAcyc hn,hv,edge_of];rfl
     . have:(f%2==1)=false:=by rw[he];rfl
       rw[this];exact h.can.even _ n hn
   . rw[jAa hv]
     have hl:Low s.nd (lvf s) (k+1) f:=⟨hf.1,λm hm=>by
      have h1:=hf.2 m hm;rw[hn] at hm;cases hm;rcases jYb (k+1) (lvf s n.v) with h2|h2
      . exact h2
      . exact absurd (h.pm.inj (h.vars _ n hn) hy (by omega)) hv⟩
     exact⟨hl,hl,hself,λh=>h,λ_=>hl⟩
def Zq(lo hi:Nat):Nat×Nat:=((norm lo hi).1,(norm lo hi).2.1)
def wkeys(l:List Td):List (Nat×Nat):=l.flatMap λt=>[(t.ll,t.hl),(t.lh,t.hh)]
structure Wished (t:List Ent) (done:List (Nat×Nat)) (q:List (Nat×Nat)×Nat):Prop where
 len:q.1.length=q.2
 nodup:q.1.Nodup
 le:q.2<=done.length
 new:∀k∈q.1,k.1≠k.2/\findT t k.1 k.2=none
 full:∀k∈done,(Zq k.1 k.2).1≠(Zq k.1 k.2).2->findT t (Zq k.1 k.2).1 (Zq k.1 k.2).2=none->Zq k.1 k.2∈q.1
theorem Wished.step{t:List Ent}{done:List (Nat×Nat)}{q:List (Nat×Nat)×Nat}(h:Wished t done q)(k:Nat×Nat):Wished t (done++[k]) (wish t q k):=by
 unfold wish;have hk:(norm k.1 k.2).1=(Zq k.1 k.2).1/\(norm k.1 k.2).2.1=(Zq k.1 k.2).2:=⟨rfl,rfl⟩;rcases hn:norm k.1 k.2 with⟨a,b,c⟩
 have hkey:Zq k.1 k.2=(a,b):=by unfold Zq;rw[hn]
 simp only;split
 . rename_i hc
   refine⟨h.len,h.nodup,by rw[yG];exact jFb h.le (Nat.le_add_right _ _),h.new,λj hj=>?_⟩;rcases jH.1 hj with hj|hj
   . exact h.full j hj
   . rw[jKb] at hj
     subst hj;rw[hkey];intro h1 h2;rcases hc with hc|hc|hc
     . exact absurd hc h1
     . simp only at h2;rw[h2] at hc;cases hc
     . simpa using hc
 . rename_i hc
   rw[not_or,not_or] at hc;obtain⟨h1,h2,h3⟩:=hc;have h2':findT t a b=none:=by simpa using h2
   have h3':(a,b)∉q.1:=by simpa using h3
   refine⟨by simp[h.len],jY.2 ⟨h.nodup,by simp,λx hx z hz=>?_⟩,?_,λj hj=>?_,λj hj g1 g2=>?_⟩
   . rw[jKb] at hz
     subst hz;rintro rfl;exact h3' hx
   . have:=h.le
     simp only[yG,yB,yC];omega
   . rcases jH.1 hj with hj|hj
     . exact h.new j hj
     . rw[jKb] at hj
       subst hj;exact⟨h1,h2'⟩
   . rcases jH.1 hj with hj|hj
     . exact jRa _ (h.full j hj g1 g2)
     . rw[jKb] at hj
       subst hj;rw[hkey];exact kFb _ (.head _)
theorem wants_foldl{t:List Ent}:∀(l:List Td) (done:List (Nat×Nat)) (q:List (Nat×Nat)×Nat),Wished t done q->Wished t (done++wkeys l) (l.foldl (λq d=>wish t (wish t q (d.ll,d.hl)) (d.lh,d.hh)) q)
 | [],done,q,h=>by simpa[wkeys] using h
 | d::l,done,q,h=>by
   rw[List.foldl_cons]
   have:=wants_foldl l _ _ ((h.step (d.ll,d.hl)).step (d.lh,d.hh));have e:done++wkeys (d::l)=done++[(d.ll,d.hl)]++[(d.lh,d.hh)]++wkeys l:=by simp[wkeys]
   rw[e];exact this
theorem wants_ok(s:St)(x:Nat)(l:List Td):∃Q:List (Nat×Nat),Q.length=s.wants x l/\Q.Nodup/\s.wants x l<=2*l.length/\(∀k∈Q,k.1≠k.2/\findT (s.tab x) k.1 k.2=none) /\
  ∀d∈l,∀k,k=(d.ll,d.hl)\/k=(d.lh,d.hh)->(Zq k.1 k.2).1≠(Zq k.1 k.2).2->findT (s.tab x) (Zq k.1 k.2).1 (Zq k.1 k.2).2=none->Zq k.1 k.2∈Q:=by
 have h:=wants_foldl (t:=s.tab x) l [] ([],0) ⟨rfl,by simp,by simp,by simp,by simp⟩;refine⟨_,h.len,h.nodup,?_,h.new,λd hd k hk=>h.full k ?_⟩
 . have:=h.le
   have e:∀l:List Td,(wkeys l).length=2*l.length:=λl=>by
    induction l with
    | nil=>rfl
    | cons a l ih=>simp only[wkeys,jMb,yG,yB,yC] at ih ⊢;omega
   rw[List.nil_append,e] at this;exact this
 . rw[List.nil_append]
   unfold wkeys;rw[kU];refine⟨d,hd,?_⟩;rcases hk with rfl|rfl
   . exact .head _
   . exact .tail _ (.head _)
end G
namespace G
section
variable{G:Gr} {r:Nat->Nat}
theorem den_eqc{G':Gr}{r':Nat->Nat}(h:Acyc G r)(h':Acyc G' r'){c:Nat}(hs:∀id n,r id<c->G id=some n->∃n',G' id=some n'/\n'.v=n.v/\n'.lo=n.lo/\n'.hi=n.hi) :
  ∀(b e:Nat),r (e/2)<b->r (e/2)<c->val G e->∀ρ,den G' e ρ=den G e ρ:=by
 intro b
 induction b with
 | zero=>intro e hb;omega
 | succ b ih =>
   intro e hb hc hv ρ;by_cases h0:e/2=0
   . rw[Qp h.g0 h0,Qp h'.g0 h0]
   . obtain⟨n,hn⟩:=yF.1 (hv.resolve_left h0)
     obtain⟨n',hn',e1,e2,e3⟩:=hs _ n hc hn;rw[Xy h hn,Xy h' hn',e1,e2,e3];refine jNa _ ?_;have hk:=h.kid hn (ρ n.v);generalize (if ρ n.v=true then n.hi else n.lo)=d at *
     by_cases hc0:d/2=0
     . rw[Qp h.g0 hc0,Qp h'.g0 hc0]
     . exact ih d (by have:=hk.2 hc0;omega) (by have:=hk.2 hc0;omega) hk.1 ρ
theorem Kp(G:Gr)(id:Nat)(n:Nd):Zh G id n id=some n:=by simp[Zh]
theorem Zj(G:Gr){id i:Nat}(n:Nd)(h:i≠id):Zh G id n i=G i:=by simp[Zh,h]
theorem val_putN{t:Nat}{n m:Nd}(hn:G t=some n){e:Nat}:val (Zh G t m) e↔val G e:=by
 unfold val;by_cases h:e/2=t
 . rw[h,Kp,hn];simp
 . rw[Zj _ _ h]
theorem Can.turn(h:Can G r){t:Nat}{n m:Nd}(hn:G t=some n)(hl:val G m.lo)(hh:val G m.hi)(hev:m.hi%2=0)(hne:m.lo≠m.hi)(il:Indep (den G m.lo) m.v)(ih:Indep (den G m.hi) m.v)
  {r':Nat->Nat}(hr:∀i,r' i=r i)(rl:m.lo/2≠0->r (m.lo/2)<r t)(rh:m.hi/2≠0->r (m.hi/2)<r t)(hd:∀ρ,ite3 m.v (den G m.hi) (den G m.lo) ρ=den G (2*t) ρ) :
  Can (Zh G t m) r'/\∀e,val G e->∀ρ,den (Zh G t m) e ρ=den G e ρ:=by
 obtain rfl:r'=r:=funext hr;have ht:t≠0:=by rintro rfl;rw[h.g0] at hn;cases hn
 have old:∀i a,i≠t->Zh G t m i=some a->G i=some a:=λi a hi ha=>by rw[Zj _ _ hi] at ha;exact ha
 have ac:Acyc (Zh G t m) r':=by
  refine⟨by rw[Zj _ _ (Ne.symm ht)];exact h.g0,h.top,λi a ha=>?_,λi a ha=>?_⟩
  . rw[val_putN hn]
    by_cases hi:i=t
    . subst hi;rw[Kp] at ha;cases ha;exact⟨hl,rl⟩
    . exact h.lo i a (old i a hi ha)
  . rw[val_putN hn]
    by_cases hi:i=t
    . subst hi;rw[Kp] at ha;cases ha;exact⟨hh,rh⟩
    . exact h.hi i a (old i a hi ha)
 have low:∀e,r' (e/2)<r' t->val G e->∀ρ,den (Zh G t m) e ρ=den G e ρ:=λe he hv ρ =>
  den_eqc h.toAcyc ac (c:=r' t) (λi a hi ha=>⟨a,by rw[Zj _ _ (by rintro rfl;omega)];exact ha,rfl,rfl,rfl⟩) _ e (kIb _) he hv ρ
 have kid:∀e,val G e->(e/2≠0->r' (e/2)<r' t)->∀ρ,den (Zh G t m) e ρ=den G e ρ:=λe hv he ρ=>by
  by_cases h0:e/2=0
  . rw[Qp h.g0 h0,Qp ac.g0 h0]
  . exact low e (he h0) hv ρ
 have self:∀ρ,den (Zh G t m) (2*t) ρ=den G (2*t) ρ:=λρ=>by
  rw[Xc ac (Kp G t m),<- hd ρ,show den (Zh G t m) m.hi=den G m.hi from funext (kid _ hh rh),show den (Zh G t m) m.lo=den G m.lo from funext (kid _ hl rl)]
 have hden:∀e,val G e->∀ρ,den (Zh G t m) e ρ=den G e ρ:=λe hv ρ =>
  den_eq h.toAcyc ac (λi a ha=>by
   by_cases hi:i=t
   . subst hi;exact .inr self
   . exact .inl ⟨a,by rw[Zj _ _ hi];exact ha,rfl,rfl,rfl⟩) _ e (kIb _) hv ρ
 have hdf:∀e,val G e->den (Zh G t m) e=den G e:=λe he=>funext (hden e he)
 refine⟨{ toAcyc:=ac,even:=λi a ha=>?_,ne:=λi a ha=>?_,can:=λe f he hf hall=>?_,indl:=λi a ha=>?_,indh:=λi a ha=>?_ },hden⟩
 . by_cases hi:i=t
   . subst hi;rw[Kp] at ha;cases ha;exact hev
   . exact h.even i a (old i a hi ha)
 . by_cases hi:i=t
   . subst hi;rw[Kp] at ha;cases ha;exact hne
   . exact h.ne i a (old i a hi ha)
 . have he:=(val_putN hn).1 he
   have hf:=(val_putN hn).1 hf;exact h.can e f he hf λρ=>by rw[<- hden e he,<- hden f hf,hall ρ]
 . by_cases hi:i=t
   . subst hi;rw[Kp] at ha;cases ha;rw[hdf _ hl];exact il
   . have ha:=old i a hi ha
     rw[hdf _ (h.lo i a ha).1];exact h.indl i a ha
 . by_cases hi:i=t
   . subst hi;rw[Kp] at ha;cases ha;rw[hdf _ hh];exact ih
   . have ha:=old i a hi ha
     rw[hdf _ (h.hi i a ha).1];exact h.indh i a ha
end
theorem RC.turn{G:Gr}{c:Nat->Nat}{N:Nat}{ext:Nat->Int}{d:Nat}(h:RC G c N ext d){t:Nat}{n m:Nd}(hn:G t=some n)(hc:0<c t):RC (Zh G t m) c N (λi=>ext i+Zl n i-Zl m i) d:=by
 have hsome:∀i,(Zh G t m i).isSome=(G i).isSome:=λi=>by
  by_cases hi:i=t
  . subst hi;rw[Kp,hn];rfl
  . rw[Zj _ _ hi]
 have ht:=h.dom t (by rw[hn];rfl);have hin:∀x,Zy (Zh G t m) c N x=Zy G c N x+Zl m x-Zl n x:=λx=>by
  unfold Zy;rw[sumTo_upd (j:=t) (f:=inW G c x) ht λi hi=>by unfold inW;rw[Zj _ _ hi]];have e1:inW (Zh G t m) c x t=Zl m x:=by unfold inW;rw[Kp];simp[hc]
  have e2:inW G c x t=Zl n x:=by unfold inW;rw[hn];simp[hc]
  omega
 refine⟨λi hi=>h.dom i (by rw[<- hsome];exact hi),λi hi=>?_,?_⟩
 . rw[hin]
   have:=h.cnt i (by rw[<- hsome];exact hi);omega
 . rw[h.dead]
   exact Kn λi _=>by unfold Kc;rw[hsome]
def rl(ids:List Nat)(k:Nat)(lv:Nat->Nat)(id v:Nat):Nat:=if id∈ids then k else if lv v=k then k+1 else lv v
def rkm(ids:List Nat)(k:Nat)(lv:Nat->Nat)(G:Gr):Nat->Nat:=λid=>match G id with|some n=>70-rl ids k lv id n.v|none=>0
theorem Yb{ids:List Nat}{k:Nat}{lv:Nat->Nat}{G:Gr}{id:Nat}{n:Nd}(h:G id=some n):rkm ids k lv G id=70-rl ids k lv id n.v:=by unfold rkm;rw[h]
theorem rkm_top(ids:List Nat)(k:Nat)(lv:Nat->Nat)(G:Gr)(id:Nat):rkm ids k lv G id+2<fuel:=by
 have:rkm ids k lv G id<=70:=by unfold rkm;split <;> omega
 have:72<fuel:=(by decide);omega
theorem rkm_le(ids:List Nat)(k:Nat)(lv:Nat->Nat)(G:Gr)(id:Nat):rkm ids k lv G id<=70:=by unfold rkm;split <;> omega
structure Setup (B:Nat) (s0:St) (k x y:Nat) (T:List Td) (Q:List (Nat×Nat)):Prop where
 ok:StOk B s0
 hx:x<s0.vars.length
 hy:y<s0.vars.length
 lx:lvf s0 x=k
 ly:lvf s0 y=k+1
 live:∀id,(s0.nd id).isSome=true->0<Qv s0 id
 node:∀t∈T,s0.nd t.id=some t.n/\t.n.v=x
 ll:∀t∈T,Low s0.nd (lvf s0) (k+1) t.ll
 lh:∀t∈T,Low s0.nd (lvf s0) (k+1) t.lh
 hl:∀t∈T,Low s0.nd (lvf s0) (k+1) t.hl
 hh:∀t∈T,Low s0.nd (lvf s0) (k+1) t.hh
 even:∀t∈T,t.hh%2=0
 denl:∀t∈T,∀ρ,den s0.nd t.n.lo ρ=ite3 y (den s0.nd t.lh) (den s0.nd t.ll) ρ
 denh:∀t∈T,∀ρ,den s0.nd t.n.hi ρ=ite3 y (den s0.nd t.hh) (den s0.nd t.hl) ρ
 ne:∀t∈T,t.ll≠t.lh\/t.hl≠t.hh
 high:∀t∈T,¬(Low s0.nd (lvf s0) (k+1) t.n.lo/\Low s0.nd (lvf s0) (k+1) t.n.hi)
 nodup:(T.map (·.id)).Nodup
 all:∀id n,s0.nd id=some n->n.v=x->id∉T.map (·.id)->Low s0.nd (lvf s0) (k+1) n.lo/\Low s0.nd (lvf s0) (k+1) n.hi
 qroom:many s0.pl.slots+Q.length<=s0.pl.room
 qall:∀d∈T,∀k,k=(d.ll,d.hl)\/k=(d.lh,d.hh)->(Zq k.1 k.2).1≠(Zq k.1 k.2).2->findT (s0.tab x) (Zq k.1 k.2).1 (Zq k.1 k.2).2=none->Zq k.1 k.2∈Q
structure Mid (s0:St) (k x y:Nat) (T:List Td) (Q:List (Nat×Nat)) (rest:List Td) (s:St):Prop where
 vars:s.vars=(s0.flipLev k).vars
 lev:s.lev=(s0.flipLev k).lev
 tabl:s.tabs.length=s0.vars.length
 pl:PlOk s.pl
 room:s.pl.room=s0.pl.room
 can:Can s.nd (rkm (T.map (·.id)) k (lvf s0) s.nd)
 ordr:∀id n,s.nd id=some n->∀c,(c=n.lo\/c=n.hi)->∀m,s.nd (c/2)=some m->rl (T.map (·.id)) k (lvf s0) id n.v<rl (T.map (·.id)) k (lvf s0) (c/2) m.v
 vlt:∀id n,s.nd id=some n->n.v<s0.vars.length
 todo:∀t∈rest,s.nd t.id=some t.n
 done:∀id∈T.map (·.id),id∉rest.map (·.id)->∃n,s.nd id=some n/\n.v=y/\∀c,(c=n.lo\/c=n.hi)->∀m,s.nd (c/2)=some m->m.v≠y
 keep:∀id n,s0.nd id=some n->id∉T.map (·.id)->s.nd id=some n
 new:∀id n,s.nd id=some n->s0.nd id=none->n.v=x/\n.refs=0
 refs:∀id,(s0.nd id).isSome=true->Qg s.nd id=Qg s0.nd id
 dens:∀e,val s0.nd e->val s.nd e/\∀ρ,den s.nd e ρ=den s0.nd e ρ
 live:∀id n,s0.nd id=some n->(id∈T.map (·.id)\/lvf s0 n.v<k)->0<Qv s id
 tab:∀v,v<s0.vars.length->TabOk s.nd v (λid=>id∈rest.map (·.id)) (s.tab v)
 cl:∀id,(s.nd id).isSome=true->id<s.cnt.length
 clen:s.cnt.length<=1048577
 rc:RC s.nd (Qv s) s.pl.slots.length (Qg s.nd) s.dead
 used:∃U:List (Nat×Nat),U.Nodup/\(∀q∈U,q∈Q/\(findT (s.tab x) q.1 q.2).isSome=true)/\many s.pl.slots=many s0.pl.slots+U.length
section
variable{B:Nat} {s0:St} {k x y:Nat} {T:List Td} {Q:List (Nat×Nat)} {rest:List Td} {s:St}
theorem Setup.xy(u:Setup B s0 k x y T Q):x≠y:=by rintro rfl;have:=u.lx;have:=u.ly;omega
theorem Mid.ids_v(u:Setup B s0 k x y T Q)(hsub:∀t∈rest,t∈T)(h:Mid s0 k x y T Q rest s){id:Nat}(hid:id∈T.map (·.id)){n:Nd}(hn:s.nd id=some n):(n.v=x/\id∈rest.map (·.id))\/n.v=y/\id∉rest.map (·.id):=by
 by_cases hr:id∈rest.map (·.id)
 . obtain⟨t,ht,rfl⟩:=jF.1 hr
   rw[h.todo t ht] at hn;cases hn;exact .inl ⟨(u.node t (hsub t ht)).2,hr⟩
 . obtain⟨n',hn',hv,_⟩:=h.done id hid hr
   rw[hn] at hn';cases hn';exact .inr ⟨hv,hr⟩
theorem Mid.low(u:Setup B s0 k x y T Q)(h:Mid s0 k x y T Q rest s){e:Nat}(he:Low s0.nd (lvf s0) (k+1) e):Low s.nd (lvf s0) (k+1) e:=by
 refine⟨(h.dens e he.1).1,λm hm=>?_⟩;rcases he.1 with h0|h0
 . rw[h0,h.can.g0] at hm;cases hm
 . obtain⟨n,hn⟩:=yF.1 h0
   have h1:=he.2 n hn;have hni:e/2∉T.map (·.id):=λhi=>by
    obtain⟨t,ht,hte⟩:=jF.1 hi;obtain⟨h2,h3⟩:=u.node t ht;rw[hte,hn] at h2;cases h2;rw[h3,u.lx] at h1;omega
   rw[h.keep _ n hn hni] at hm;cases hm;exact h1
theorem Mid.ord(u:Setup B s0 k x y T Q)(hsub:∀t∈rest,t∈T)(h:Mid s0 k x y T Q rest s):Ord s.nd (lvf s0) (k+2):=by
 have key:∀id n,s.nd id=some n->k+2<=lvf s0 n.v->∀c,(c=n.lo\/c=n.hi)->∀m,s.nd (c/2)=some m->lvf s0 n.v<lvf s0 m.v:=by
  intro id n hn hk c hc m hm;have h1:=h.ordr id n hn c hc m hm;have hni:id∉T.map (·.id):=λhi=>by
   rcases h.ids_v u hsub hi hn with⟨h2,_⟩|⟨h2,_⟩
   . rw[h2,u.lx] at hk;omega
   . rw[h2,u.ly] at hk;omega
  unfold rl at h1;rw[jAa hni,jAa (by omega)] at h1;split at h1
  . omega
  . split at h1
    . omega
    . exact h1
 exact⟨λid n hn hk=>key id n hn hk _ (.inl rfl),λid n hn hk=>key id n hn hk _ (.inr rfl)⟩
theorem Mid.low_indep(u:Setup B s0 k x y T Q)(hsub:∀t∈rest,t∈T)(h:Mid s0 k x y T Q rest s){e:Nat}(he:Low s.nd (lvf s0) (k+1) e){v:Nat}(hv:lvf s0 v<=k+1):Indep (den s.nd e) v :=
 (h.ord u hsub).low h.can.toAcyc he.1 (λm hm=>he.2 m hm) λm hm=>by have:=he.2 m hm;omega
theorem Mid.rl_low(u:Setup B s0 k x y T Q)(hsub:∀t∈rest,t∈T)(h:Mid s0 k x y T Q rest s){e:Nat}{m:Nd}(hm:s.nd e=some m)(hk:k+1<lvf s0 m.v):rl (T.map (·.id)) k (lvf s0) e m.v=lvf s0 m.v:=by
 have hni:e∉T.map (·.id):=λhi=>by
  rcases h.ids_v u hsub hi hm with⟨h2,_⟩|⟨h2,_⟩
  . rw[h2,u.lx] at hk;omega
  . rw[h2,u.ly] at hk;omega
 unfold rl;rw[jAa hni,jAa (by omega)]
end
end G
namespace G
theorem nodup_sub_len{α:Type}[DecidableEq α]:∀(l m:List α),l.Nodup->(∀a∈l,a∈m)->l.length<=m.length
 | [],_,_,_=>jC _
 | a::l,m,hd,hs=>by
   rw[jMa] at hd;have ha:=hs a (.head _);have h1:=nodup_sub_len l (m.erase a) hd.2 λb hb=>(List.mem_erase_of_ne (by rintro rfl;exact hd.1 hb)).2 (hs b (.tail _ hb))
   have h2:=List.length_erase_of_mem ha;have h3:=kQ ha;simp only[yB];omega
section
variable{B:Nat} {s0:St} {k x y:Nat} {T:List Td} {Q:List (Nat×Nat)} {rest:List Td} {s:St}
theorem Mid.ids_some(h:Mid s0 k x y T Q rest s){id:Nat}(hid:id∈T.map (·.id)):(s.nd id).isSome=true:=by
 by_cases hr:id∈rest.map (·.id)
 . obtain⟨t,ht,rfl⟩:=jF.1 hr
   rw[h.todo t ht];rfl
 . obtain⟨n,hn,_⟩:=h.done id hid hr
   rw[hn];rfl
theorem Setup.k64(u:Setup B s0 k x y T Q):k+1<64:=by
 have h1:=(u.ok.pm.lv y u.hy).1
 have:=u.ok.pm.le;rw[u.ly] at h1;omega
theorem keyOf_eq(lo hi:Nat):Zq lo hi=(flipIf lo (hi%2==1),flipIf hi (hi%2==1)):=by unfold Zq;rw[norm_eq]
theorem Mid.below(u:Setup B s0 k x y T Q)(hsub:∀t∈rest,t∈T)(h:Mid s0 k x y T Q rest s){lo hi:Nat}(hl:Low s0.nd (lvf s0) (k+1) lo)(hh:Low s0.nd (lvf s0) (k+1) hi)
  (hq:(Zq lo hi).1≠(Zq lo hi).2->findT (s0.tab x) (Zq lo hi).1 (Zq lo hi).2=none->Zq lo hi∈Q) :
  ∃s' r,s.below x lo hi=some (s',r)/\Mid s0 k x y T Q rest s'/\(∀i n,s.nd i=some n->s'.nd i=some n)/\(∀e,val s.nd e->val s'.nd e/\∀ρ,den s'.nd e ρ=den s.nd e ρ) /\
    val s'.nd r/\(∀ρ,den s'.nd r ρ=ite3 x (den s.nd hi) (den s.nd lo) ρ)/\(∀m,s'.nd (r/2)=some m->(m.v=x/\r/2∉T.map (·.id))\/k+1<lvf s0 m.v)/\(hi%2=0->r%2=0):=by
 have hl':=h.low u hl;have hh':=h.low u hh;unfold St.below;by_cases heq:lo=hi
 . subst heq
   rw[jAb rfl];exact⟨s,lo,rfl,h,λ_ _ h=>h,λ_ h=>⟨h,λ_=>rfl⟩,hl'.1,λρ=>by unfold ite3;split <;> rfl,λm hm=>.inr (hl'.2 m hm),λh=>h⟩
 . rw[jAa heq,norm_eq]
   rw[keyOf_eq] at hq;simp only at hq ⊢;have hne:flipIf lo (hi%2==1)≠flipIf hi (hi%2==1):=λe=>heq (flipIf_inj e)
   have hl2:=hl'.flipIf (hi%2==1);have hh2:=hh'.flipIf (hi%2==1);have hl0:=hl.flipIf (hi%2==1);have hh0:=hh.flipIf (hi%2==1);have hev:=norm_even hi;have hflip:∀ρ,((hi%2==1) ^^ ite3 x (den s.nd (flipIf hi (hi%2==1))) (den s.nd (flipIf lo (hi%2==1))) ρ)=ite3 x (den s.nd hi) (den s.nd lo) ρ:=λρ=>ite3_flip ρ
   have hodd:hi%2=0->(hi%2==1)=false:=λhe=>by rw[he];rfl
   generalize (hi%2==1)=b at *
   generalize flipIf lo b=l at *
   generalize flipIf hi b=c at *
   have htx:=h.tab x u.hx;have evenr:∀id,hi%2=0->G.edge id b%2=0:=λid he=>by rw[hodd he];unfold G.edge flipIf;simp
   cases hf:findT (s.tab x) l c with
   | some id =>
     obtain⟨hx,n,hn,hnv,h1,h2⟩:=htx.find_node hf;refine⟨s,_,rfl,h,λ_ _ h=>h,λ_ h=>⟨h,λ_=>rfl⟩,val_some hn _,λρ=>?_,λm hm=>?_,evenr id⟩
     . rw[Ka,Xc h.can.toAcyc hn,hnv,h1,h2,hflip]
     . rw[edge_div,hn] at hm
       cases hm;refine .inl ⟨hnv,λhi=>?_⟩;rw[edge_div] at hi;rcases h.ids_v u hsub hi hn with⟨_,h3⟩|⟨h3,_⟩
       . exact hx h3
       . exact u.xy (hnv.symm.trans h3)
   | none =>
     have hk64:=u.k64;have hkey:findT (s0.tab x) l c=none:=by
      cases hf0:findT (s0.tab x) l c with
      | none=>rfl
      | some id0 =>
        obtain⟨_,n0,hn0,hv0,h1,h2⟩:=(u.ok.tab x u.hx).find_node hf0;have hni:id0∉T.map (·.id):=λhi=>by
         obtain⟨t,ht,rfl⟩:=jF.1 hi
         have:=(u.node t ht).1;rw[hn0] at this;cases this;exact u.high t ht (by rw[h1,h2];exact⟨hl0,hh0⟩)
        exact absurd ⟨h1,h2⟩ (htx.find_none hf id0 n0 (h.keep id0 n0 hn0 hni) hv0 λhr=>hni (by
         obtain⟨t,ht,hte⟩:=jF.1 hr;exact jF.2 ⟨t,hsub t ht,hte⟩))
     have hqm:=hq hne hkey;obtain⟨U,hU1,hU2,hU3⟩:=h.used;have hnU:(l,c)∉U:=λhm=>by
      have:=(hU2 _ hm).2;rw[hf] at this;cases this
     have hUlen:=nodup_sub_len ((l,c)::U) Q (jMa.2 ⟨hnU,hU1⟩) λa ha=>by
      rcases jBa.1 ha with rfl|ha
      . exact hqm
      . exact (hU2 a ha).1
     rw[yB] at hUlen;have hroom:many s.pl.slots<s.pl.room:=by have:=u.qroom;have:=h.room;omega
     have hdb:s.dead<big:=by have h1:=h.rc.dead_le;have h2:=h.pl.len;have h3:=h.pl.room1;have:(1048577:Nat)<big:=(by decide);omega
     obtain⟨s',id,ad⟩:=(add_raw (s:=s) (v:=x) (lo:=l) (hi:=c) h.pl (by rw[h.tabl];exact u.hx) hdb).1 hroom;have hidn:id∉T.map (·.id):=λhi=>by have:=h.ids_some hi;rw[ad.old] at this;cases this
     have il:=h.low_indep u hsub hl2 (v:=x) (by rw[u.lx];omega);have ic:=h.low_indep u hsub hh2 (v:=x) (by rw[u.lx];omega);have hnew:=h.can.no_other hl2.1 hh2.1 hev hne il ic (λi m hm hmv=>by
       by_cases hlv:lvf s0 m.v<=k+1
       . exact .inl ⟨h.low_indep u hsub hl2 hlv,h.low_indep u hsub hh2 hlv⟩
       . refine .inr (h.low_indep u hsub ⟨.inr (by rw[show 2*i/2=i by omega,hm];rfl),λm' hm'=>?_⟩ (by rw[u.lx];omega))
         rw[show 2*i/2=i by omega,hm] at hm';cases hm';omega)
      (λi m hm hmv hlh=>by
        by_cases hr:i∈rest.map (·.id)
        . obtain⟨t,ht,rfl⟩:=jF.1 hr
          rw[h.todo t ht] at hm;cases hm;exact u.high t (hsub t ht) (by rw[hlh.1,hlh.2];exact⟨hl0,hh0⟩)
        . exact htx.find_none hf i m hm hmv hr hlh)
     have rlx:rl (T.map (·.id)) k (lvf s0) id x=k+1:=by unfold rl;rw[jAa hidn,jAb u.lx]
     have rkid:rkm (T.map (·.id)) k (lvf s0) (Xq s.nd id ⟨x,l,c,0⟩) id=70-(k+1):=by rw[Yb (Qm _ _ _)];simp only;rw[rlx]
     have rklow:∀e,Low s.nd (lvf s0) (k+1) e->e/2≠0->rkm (T.map (·.id)) k (lvf s0) s.nd (e/2)<rkm (T.map (·.id)) k (lvf s0) (Xq s.nd id ⟨x,l,c,0⟩) id:=λe he h0=>by
      obtain⟨m,hm⟩:=yF.1 (he.1.resolve_left h0);have h1:=he.2 m hm;rw[rkid,Yb hm,h.rl_low u hsub hm h1];omega
     obtain⟨hc,hd⟩:=h.can.add (n:=⟨x,l,c,0⟩) ad.id0 ad.old hl2.1 hh2.1 hev il ic hne (r':=rkm (T.map (·.id)) k (lvf s0) (Xq s.nd id ⟨x,l,c,0⟩)) (λi hi=>by
      have hi':i≠id:=λe=>hi (by rw[e];exact ad.old)
      unfold rkm;rw[Qr _ _ hi']) (rkm_top _ _ _ _) (rklow l hl2) (rklow c hh2) hnew
     have hdf:∀e,val s.nd e->den (Xq s.nd id ⟨x,l,c,0⟩) e=den s.nd e:=λe he=>funext (hd e he)
     have hsome:∀i n,s.nd i=some n->Xq s.nd id ⟨x,l,c,0⟩ i=some n:=λi n hn=>by rw[Qr _ _ (by rintro rfl;rw[ad.old] at hn;cases hn)];exact hn
     have hval:∀e,val s.nd e->val (Xq s.nd id ⟨x,l,c,0⟩) e:=λe he=>val_sub (sub_addN ad.old) he
     have hkid:∀e m,val s.nd e->Xq s.nd id ⟨x,l,c,0⟩ (e/2)=some m->s.nd (e/2)=some m:=λe m hve hm=>by
      by_cases he:e/2=id
      . rcases hve with h0|h0
        . exact absurd (he ▸ h0) ad.id0
        . rw[he,ad.old] at h0;cases h0
      . rw[Qr _ _ he] at hm;exact hm
     obtain⟨hr1,hr2⟩:=refsf_add s.nd id x l c ad.old;have hs0:s0.nd id=none:=by
      cases hn:s0.nd id with
      | none=>rfl
      | some n =>
        have:=(h.dens (2*id) (.inr (by rw[show 2*id/2=id by omega,hn];rfl))).1;rcases this with h0|h0
        . exact absurd (by omega) ad.id0
        . rw[show 2*id/2=id by omega,ad.old] at h0;cases h0
     refine⟨s',G.edge id b,by simp only[ad.run],⟨by rw[ad.vars];exact h.vars,by rw[ad.lev];exact h.lev,by rw[ad.tabs,jJa];exact h.tabl,ad.pl,by rw[ad.room];exact h.room,by rw[ad.nd];exact hc,?_,?_,?_,?_,?_,?_,?_,?_,?_,?_,?_,?_,?_,?_⟩,by rw[ad.nd];exact hsome,by rw[ad.nd];exact λe he=>⟨hval e he,hd e he⟩,by rw[ad.nd];exact val_some (Qm _ _ _) _,λρ=>?_,λm hm=>?_,evenr id⟩
     . rw[ad.nd]
       intro i n hn e he m hm;by_cases hi:i=id
       . subst hi
         rw[Qm] at hn;cases hn;have hlow:Low s.nd (lvf s0) (k+1) e:=by rcases he with rfl|rfl;exact hl2;exact hh2
         have hm':=hkid e m hlow.1 hm;have h1:=hlow.2 m hm';simp only;rw[rlx,h.rl_low u hsub hm' h1];exact h1
       . rw[Qr _ _ hi] at hn
         have hve:val s.nd e:=by rcases he with rfl|rfl;exact (h.can.lo i n hn).1;exact (h.can.hi i n hn).1
         exact h.ordr i n hn e he m (hkid e m hve hm)
     . rw[ad.nd]
       intro i n hn;by_cases hi:i=id
       . subst hi;rw[Qm] at hn;cases hn;exact u.hx
       . rw[Qr _ _ hi] at hn;exact h.vlt i n hn
     . rw[ad.nd]
       exact λt ht=>hsome _ _ (h.todo t ht)
     . rw[ad.nd]
       intro i hi hir;obtain⟨n,hn,hv,hch⟩:=h.done i hi hir;refine⟨n,hsome _ _ hn,hv,λe he m hm=>?_⟩;have hve:val s.nd e:=by rcases he with rfl|rfl;exact (h.can.lo i n hn).1;exact (h.can.hi i n hn).1
       exact hch e he m (hkid e m hve hm)
     . rw[ad.nd]
       exact λi n hn hi=>hsome _ _ (h.keep i n hn hi)
     . rw[ad.nd]
       intro i n hn h0;by_cases hi:i=id
       . subst hi;rw[Qm] at hn;cases hn;exact⟨rfl,rfl⟩
       . rw[Qr _ _ hi] at hn;exact h.new i n hn h0
     . rw[ad.nd]
       intro i hi;rw[hr2 i (by rintro rfl;rw[hs0] at hi;cases hi)];exact h.refs i hi
     . rw[ad.nd]
       intro e he;obtain⟨h1,h2⟩:=h.dens e he;exact⟨hval e h1,λρ=>by rw[hd e h1,h2]⟩
     . rw[ad.cnt]
       intro i n hn hc';unfold Zg;rw[jAa (by rintro rfl;rw[hs0] at hn;cases hn)];exact h.live i n hn hc'
     . intro v hv
       unfold St.tab;rw[ad.tabs,ad.nd,Zm _ _ _ _ _ (by rw[h.tabl];exact u.hx)];split
       . rename_i he
         subst he;exact (h.tab v hv).put (n:=⟨v,l,c,0⟩) (Qm _ _ _) rfl (λhx=>hidn (by
          obtain⟨t,ht,hte⟩:=jF.1 hx;exact jF.2 ⟨t,hsub t ht,hte⟩)) (λm hm _=>by rw[ad.old] at hm;cases hm) (λi m hi _=>by rw[Qr _ _ hi]) hf
       . rename_i he
         refine (h.tab v hv).congr (λi m hm hmv hxx=>⟨hxx,m,hsome _ _ hm,hmv,rfl,rfl⟩) (λi m hm hmv hxx=>⟨hxx,m,?_,hmv,rfl,rfl⟩);by_cases hi:i=id
         . subst hi;rw[Qm] at hm;cases hm;exact absurd hmv (Ne.symm he)
         . rw[Qr _ _ hi] at hm;exact hm
     . rw[ad.nd]
       intro i hi;by_cases he:i=id
       . subst he;exact ad.clt
       . rw[Qr _ _ he] at hi;have:=h.cl i hi;have:=ad.cle;omega
     . have h1:=ad.clm;have h2:=h.clen;have h3:=ad.pl.len;have h4:=ad.pl.room1;omega
     . rw[ad.nd,ad.cnt,ad.dead]
       exact h.rc.add (λi m hm=>⟨(h.can.lo i m hm).1,(h.can.hi i m hm).1⟩) ad.id0 ad.old ad.slots ad.lt hr1 hr2
     . have htab:s'.tab x=putT (s.tab x) l c id:=by
         unfold St.tab;rw[ad.tabs,Zm _ _ _ _ _ (by rw[h.tabl];exact u.hx),jAb rfl];rfl
       have hput:putT (s.tab x) l c id=s.tab x++[⟨l,c,id⟩]:=by unfold putT;rw[hf]
       refine⟨(l,c)::U,jMa.2 ⟨hnU,hU1⟩,λq hq'=>?_,by rw[ad.many,hU3,yB];omega⟩;rw[htab,hput];rcases jBa.1 hq' with rfl|hq'
       . refine⟨hqm,?_⟩
         unfold findT;rw[Option.isSome_map,List.find?_isSome];exact⟨⟨l,c,id⟩,by simp,by simp⟩
       . obtain⟨g1,g2⟩:=hU2 q hq'
         refine⟨g1,?_⟩;unfold findT at g2 ⊢;rw[Option.isSome_map,List.find?_isSome] at g2 ⊢;obtain⟨e,he,hp⟩:=g2;exact⟨e,jRa _ he,hp⟩
     . rw[ad.nd,Ka,Xc hc.toAcyc (Qm _ _ _),hdf _ hl2.1,hdf _ hh2.1,hflip]
     . rw[ad.nd,edge_div,Qm] at hm
       cases hm;exact .inl ⟨rfl,by rw[edge_div];exact hidn⟩
end
end G
namespace G
section
variable{B:Nat} {s0:St} {k x y:Nat} {T:List Td} {Q:List (Nat×Nat)} {rest:List Td} {s:St}
theorem bump2{ext:Nat->Int}{n:Nd}(i:Nat):Qt (Qt ext (n.lo/2) 1) (n.hi/2) 1 i=ext i+Zl n i:=by
 unfold Qt Zl
 grind
theorem bumpA{ext:Nat->Int}(h:∀i,0<=ext i)(a b:Nat):1<=Qt (Qt ext a 1) b 1 a:=by have:=h a;unfold Qt;grind
theorem bumpB{ext:Nat->Int}(h:∀i,0<=ext i)(a b i:Nat):0<=Qt (Qt (Qt ext a 1) b 1) a (-1) i:=by have:=h i;unfold Qt;grind
theorem bumpC{ext:Nat->Int}(h:∀i,0<=ext i)(a b:Nat):1<=Qt (Qt (Qt ext a 1) b 1) a (-1) b:=by have:=h b;unfold Qt;grind
theorem bumpD(ext:Nat->Int)(a b i:Nat):Qt (Qt (Qt (Qt ext a 1) b 1) a (-1)) b (-1) i=ext i:=by unfold Qt;grind
theorem ite3_swap{x y:Nat}{a b ll lh hl hh:(Nat->Bool)->Bool}{ρ:Nat->Bool}(e1:a ρ=ite3 y lh ll ρ)(e2:b ρ=ite3 y hh hl ρ):ite3 y (ite3 x hh lh) (ite3 x hl ll) ρ=ite3 x b a ρ:=by
 unfold ite3 at *
 by_cases hx:ρ x=true <;> by_cases hy:ρ y=true <;> simp[hx,hy,e1,e2]
theorem Mid.step{t:Td}(u:Setup B s0 k x y T Q)(hB:B<1152921504606846976)(hsub:∀d∈t::rest,d∈T)(hnd:((t::rest).map (·.id)).Nodup)(h:Mid s0 k x y T Q (t::rest) s) :
  ∃s',s.turn1 x y t=some s'/\Mid s0 k x y T Q rest s':=by
 have ht:=hsub t (.head _);have hti:t.id∈T.map (·.id):=jF.2 ⟨t,ht,rfl⟩;have hk64:=u.k64;have hnd1:t.id∉rest.map (·.id):=(jMa.1 hnd).1;obtain⟨s1,lo,b1,m1,p1,q1,v1,d1,c1,_⟩:=h.below u hsub (u.ll t ht) (u.hl t ht) (u.qall t ht (t.ll,t.hl) (.inl rfl));obtain⟨s2,hi,b2,m2,p2,q2,v2,d2,c2,e2⟩:=m1.below u hsub (u.lh t ht) (u.hh t ht) (u.qall t ht (t.lh,t.hh) (.inr rfl));have D:∀e,val s0.nd e->∀ρ,den s2.nd e ρ=den s0.nd e ρ:=λe he=>(m2.dens e he).2
 have Df:∀e,val s0.nd e->den s2.nd e=den s0.nd e:=λe he=>funext (D e he)
 have V:∀e,val s0.nd e->val s2.nd e:=λe he=>(m2.dens e he).1
 have dlo:den s2.nd lo=ite3 x (den s2.nd t.hl) (den s2.nd t.ll):=by
  funext ρ
  rw[(q2 lo v1).2 ρ,d1 ρ,Df _ (u.hl t ht).1,Df _ (u.ll t ht).1,show den s.nd t.hl=den s0.nd t.hl from funext (h.dens _ (u.hl t ht).1).2,show den s.nd t.ll=den s0.nd t.ll from funext (h.dens _ (u.ll t ht).1).2]
 have dhi:den s2.nd hi=ite3 x (den s2.nd t.hh) (den s2.nd t.lh):=by
  funext ρ
  rw[d2 ρ,Df _ (u.hh t ht).1,Df _ (u.lh t ht).1,show den s1.nd t.hh=den s0.nd t.hh from funext (m1.dens _ (u.hh t ht).1).2,show den s1.nd t.lh=den s0.nd t.lh from funext (m1.dens _ (u.lh t ht).1).2]
 have vlo:val s2.nd lo:=(q2 lo v1).1;have vhi:val s2.nd hi:=v2;have clo:∀m,s2.nd (lo/2)=some m->(m.v=x/\lo/2∉T.map (·.id))\/k+1<lvf s0 m.v:=λm hm=>by
  rcases v1 with h0|h0
  . rw[h0,m2.can.g0] at hm;cases hm
  . obtain⟨n,hn⟩:=yF.1 h0
    rw[p2 _ _ hn] at hm;cases hm;exact c1 _ hn
 have Lll:=m2.low u (u.ll t ht);have Llh:=m2.low u (u.lh t ht);have Lhl:=m2.low u (u.hl t ht);have Lhh:=m2.low u (u.hh t ht);have I:∀{e v},Low s2.nd (lvf s0) (k+1) e->lvf s0 v<=k+1->Indep (den s2.nd e) v:=λhe hv=>m2.low_indep u hsub he hv
 have lx:lvf s0 x<=k+1:=by rw[u.lx];omega
 have ly:lvf s0 y<=k+1:=by rw[u.ly];omega
 have ilo:Indep (den s2.nd lo) y:=by rw[dlo];exact Indep.ite3 (I Lhl ly) (I Lll ly) (Ne.symm u.xy)
 have ihi:Indep (den s2.nd hi) y:=by rw[dhi];exact Indep.ite3 (I Lhh ly) (I Llh ly) (Ne.symm u.xy)
 have hev:hi%2=0:=e2 (u.even t ht);have hne:lo≠hi:=by
  rintro rfl;have hboth:ite3 x (den s2.nd t.hl) (den s2.nd t.ll)=ite3 x (den s2.nd t.hh) (den s2.nd t.lh):=dlo.symm.trans dhi;have a1:t.hl=t.hh:=m2.can.can _ _ Lhl.1 Lhh.1 λρ=>by
   have:=congrFun hboth (upd ρ x true)
   rwa [Yh (I Lhl lx),Yh (I Lhh lx)] at this
  have a2:t.ll=t.lh:=m2.can.can _ _ Lll.1 Llh.1 λρ=>by
   have:=congrFun hboth (upd ρ x false)
   rwa [Xj (I Lll lx),Xj (I Llh lx)] at this
  rcases u.ne t ht with h1|h1
  . exact h1 a2
  . exact h1 a1
 have hn2:s2.nd t.id=some t.n:=m2.todo t (.head _);have hn0:s0.nd t.id=some t.n:=(u.node t ht).1;have hnv:t.n.v=x:=(u.node t ht).2;have vl0:val s0.nd t.n.lo:=(u.ok.kids _ _ hn0).1;have vh0:val s0.nd t.n.hi:=(u.ok.kids _ _ hn0).2;have ix:∀{e},val s2.nd e->(∀m,s2.nd (e/2)=some m->(m.v=x/\e/2∉T.map (·.id))\/k+1<lvf s0 m.v)->e/2≠0->rkm (T.map (·.id)) k (lvf s0) s2.nd (e/2)<=70-(k+1):=λhv hc h0=>by
  obtain⟨m,hm⟩:=yF.1 (hv.resolve_left h0);rw[Yb hm];rcases hc m hm with⟨g1,g2⟩|g1
  . unfold rl;rw[jAa g2,jAb (by rw[g1,u.lx])];exact jBb _
  . rw[m2.rl_low u hsub hm g1];omega
 have rt:rkm (T.map (·.id)) k (lvf s0) s2.nd t.id=70-k:=by rw[Yb hn2];unfold rl;rw[jAb hti]
 have rlo:lo/2≠0->rkm (T.map (·.id)) k (lvf s0) s2.nd (lo/2)<rkm (T.map (·.id)) k (lvf s0) s2.nd t.id:=λh0=>by have:=ix vlo clo h0;omega
 have rhi:hi/2≠0->rkm (T.map (·.id)) k (lvf s0) s2.nd (hi/2)<rkm (T.map (·.id)) k (lvf s0) s2.nd t.id:=λh0=>by have:=ix vhi c2 h0;omega
 have hden:∀ρ,ite3 y (den s2.nd hi) (den s2.nd lo) ρ=den s2.nd (2*t.id) ρ:=λρ=>by
  rw[Xc m2.can.toAcyc hn2,hnv,Df _ vl0,Df _ vh0,dlo,dhi,Df _ (u.ll t ht).1,Df _ (u.lh t ht).1,Df _ (u.hl t ht).1,Df _ (u.hh t ht).1];exact ite3_swap (u.denl t ht ρ) (u.denh t ht ρ)
 have hfu:∀f,0<fuel/\(f/2≠0->rkm (T.map (·.id)) k (lvf s0) s2.nd (f/2)+1<fuel):=λf=>⟨by decide,λ_=>by have:=rkm_top (T.map (·.id)) k (lvf s0) s2.nd (f/2);omega⟩
 have refsB:∀i,Qg s2.nd i<=(B:Int):=λi=>by
  cases hs:s0.nd i with
  | none =>
    unfold Qg;cases hn:s2.nd i with
    | none=>simp
    | some n =>
      show (n.refs:Int)<=B
      rw[(m2.new i n hn hs).2];omega
  | some n0 =>
    rw[m2.refs i (by rw[hs];rfl)];unfold Qg;rw[hs];show (n0.refs:Int)<=B
    have:=u.ok.refs i n0 hs;omega
 have hb2:1152921504606846976+2097400<big:=(by decide);have hsl2:s2.pl.slots.length<=1048577:=by have:=m2.pl.len;have:=m2.pl.room1;omega
 have hrk:=rkm_le (T.map (·.id)) k (lvf s0) s2.nd;obtain⟨s3,r3,o3,rc3,u3⟩:=more_ok fuel s2 lo (Qg s2.nd) B m2.can.toAcyc m2.rc m2.cl vlo (hfu lo) refsB (by have:=hrk (lo/2);omega);have n3:=o3.nd;obtain⟨s4,r4,o4,rc4,u4⟩:=more_ok (r:=rkm (T.map (·.id)) k (lvf s0) s2.nd) fuel s3 hi (Qt (Qg s2.nd) (lo/2) 1) (B+1) (by rw[n3];exact m2.can.toAcyc) (by rw[n3];exact rc3) (by rw[n3,o3.len];exact m2.cl) (by rw[n3];exact vhi) (hfu hi) (bump_le1 refsB _) (by have:=hrk (hi/2);omega);rw[n3] at rc4;have o24:=o3.trans o4;have n4:=o24.nd;have up:∀i,70-k<=rkm (T.map (·.id)) k (lvf s0) s2.nd i->Qv s4 i=Qv s2 i:=λi hi'=>by
  have hsmall:∀e,val s2.nd e->(∀m,s2.nd (e/2)=some m->(m.v=x/\e/2∉T.map (·.id))\/k+1<lvf s0 m.v)->rkm (T.map (·.id)) k (lvf s0) s2.nd (e/2)<rkm (T.map (·.id)) k (lvf s0) s2.nd i:=λe hv hc=>by
   by_cases h0:e/2=0
   . rw[h0]
     have:rkm (T.map (·.id)) k (lvf s0) s2.nd 0=0:=by unfold rkm;rw[m2.can.g0]
     omega
   . have:=ix hv hc h0;omega
  rw[u4 i (hsmall hi vhi c2),u3 i (hsmall lo vlo clo)]
 have live4:0<Qv s4 t.id:=by
  rw[up t.id (by omega)];exact m2.live t.id t.n hn0 (.inl hti)
 obtain⟨g1,g2,g3,g4,g5⟩:=(show PlOk s4.pl by rw[o24.pl];exact m2.pl).put (id:=t.id) (n:=t.n) (m:={ t.n with v:=y,lo:=lo,hi:=hi }) (by have:=n4 ▸ hn2;exact this);have g2':∀z:St,z.pl=s4.pl.put t.id { t.n with v:=y,lo:=lo,hi:=hi }->z.nd=Zh s2.nd t.id { t.n with v:=y,lo:=lo,hi:=hi }:=λz hz=>by
  show z.pl.nd=_
  rw[hz,g2];exact jNa (λG=>Zh G t.id _) n4
 generalize hm:({ t.n with v:=y,lo:=lo,hi:=hi }:Nd)=m at *
 have mv:m.v=y:=by rw[<- hm]
 have ml:m.lo=lo:=by rw[<- hm]
 have mh:m.hi=hi:=by rw[<- hm]
 have mr:m.refs=t.n.refs:=by rw[<- hm]
 obtain⟨hcan,hdn⟩:=m2.can.turn (m:=m) hn2 (by rw[ml];exact vlo) (by rw[mh];exact vhi) (by rw[mh];exact hev) (by rw[ml,mh];exact hne) (by rw[ml,mv];exact ilo) (by rw[mh,mv];exact ihi)
  (r':=rkm (T.map (·.id)) k (lvf s0) (Zh s2.nd t.id m)) (λi=>by
    by_cases hi':i=t.id
    . subst hi'
      rw[Yb (Kp _ _ _),rt];unfold rl;rw[jAb hti]
    . unfold rkm;rw[Zj _ _ hi']) (by rw[ml];exact rlo) (by rw[mh];exact rhi) (by rw[mv,ml,mh];exact hden)
 have rc5:=rc4.turn (m:=m) hn2 live4;have ext5:∀i,Qt (Qt (Qg s2.nd) (lo/2) 1) (hi/2) 1 i+Zl t.n i-Zl m i=Qt (Qt (Qg s2.nd) (t.n.lo/2) 1) (t.n.hi/2) 1 i:=λi=>by
  have:=bump2 (ext:=Qg s2.nd) (n:=m) i;rw[ml,mh] at this;rw[this,bump2];omega
 have rc5:=rc5.congr (ext':=Qt (Qt (Qg s2.nd) (t.n.lo/2) 1) (t.n.hi/2) 1) λi _=>(ext5 i).symm
 generalize hS5:({ s4 with pl:=s4.pl.put t.id m,tabs:=s4.tabs.set y (putT (s4.tab y) lo hi t.id) }:St)=s5 at *
 have n5:s5.nd=Zh s2.nd t.id m:=g2' s5 (by rw[<- hS5]);have cn5:Qv s5=Qv s4:=by rw[<- hS5];rfl
 have d5:s5.dead=s4.dead:=by rw[<- hS5]
 have l5:s5.cnt.length=s4.cnt.length:=by rw[<- hS5]
 have vput:∀e,val (Zh s2.nd t.id m) e↔val s2.nd e:=λe=>val_putN hn2
 have hrkeq:rkm (T.map (·.id)) k (lvf s0) (Zh s2.nd t.id m)=rkm (T.map (·.id)) k (lvf s0) s2.nd:=by
  funext i
  by_cases hi':i=t.id
  . subst hi'
    rw[Yb (Kp _ _ _),rt];unfold rl;rw[jAb hti]
  . unfold rkm;rw[Zj _ _ hi']
 have cl5:∀i,(s5.nd i).isSome=true->i<s5.cnt.length:=λi hi'=>by
  rw[l5,o24.len];refine m2.cl i ?_;rw[n5] at hi';by_cases he:i=t.id
  . rw[he,hn2];rfl
  . rw[Zj _ _ he] at hi';exact hi'
 have zero_le:∀i,0<=Qg s2.nd i:=Xr s2.nd;obtain⟨s6,r6,o6,rc6,u6⟩:=less_ok (r:=rkm (T.map (·.id)) k (lvf s0) s2.nd) fuel s5 t.n.lo (Qt (Qt (Qg s2.nd) (t.n.lo/2) 1) (t.n.hi/2) 1) (by rw[n5,<- hrkeq];exact hcan.toAcyc) (by rw[n5,cn5,d5];exact rc5) cl5 (by rw[n5,vput];exact V _ vl0) (hfu _)
  (bump_ge (bump_ge zero_le _ (by omega)) _ (by omega)) (bumpA zero_le _ _) (by have:(1048577:Nat)<big:=(by decide);omega)
 obtain⟨s7,r7,o7,rc7,u7⟩:=less_ok (r:=rkm (T.map (·.id)) k (lvf s0) s2.nd) fuel s6 t.n.hi (Qt (Qt (Qt (Qg s2.nd) (t.n.lo/2) 1) (t.n.hi/2) 1) (t.n.lo/2) (-1)) (by rw[o6.nd,n5,<- hrkeq];exact hcan.toAcyc) (by rw[o6.nd];exact rc6)
  (by rw[o6.nd,o6.len];exact cl5) (by rw[o6.nd,n5,vput];exact V _ vh0) (hfu _)
  (bumpB zero_le _ _) (bumpC zero_le _ _) (by have:(1048577:Nat)<big:=(by decide);omega)
 rw[o6.nd,n5] at rc7;have rc7:=rc7.congr (ext':=Qg s2.nd) λi _=>(bumpD _ _ _ i).symm
 have o57:=o6.trans o7;have n7:s7.nd=Zh s2.nd t.id m:=o57.nd.trans n5;have pl7:s7.pl=s4.pl.put t.id m:=by rw[o57.pl,<- hS5]
 have tabs7:s7.tabs=s2.tabs.set y (putT (s2.tab y) lo hi t.id):=by
  rw[o57.tabs,<- hS5];show s4.tabs.set y (putT (s4.tabs.getD y []) lo hi t.id)=_
  rw[o24.tabs];rfl
 have up7:∀i,70-k<=rkm (T.map (·.id)) k (lvf s0) s2.nd i->Qv s7 i=Qv s2 i:=λi hi'=>by
  have hsmall:∀e,(e=t.n.lo\/e=t.n.hi)->rkm (T.map (·.id)) k (lvf s0) s2.nd (e/2)<rkm (T.map (·.id)) k (lvf s0) s2.nd i:=λe he=>by
   by_cases h0:e/2=0
   . rw[h0]
     have:rkm (T.map (·.id)) k (lvf s0) s2.nd 0=0:=by unfold rkm;rw[m2.can.g0]
     omega
   . have hA:=m2.can.lo _ _ hn2
     have hB':=m2.can.hi _ _ hn2;rcases he with rfl|rfl
     . have:=hA.2 h0;omega
     . have:=hB'.2 h0;omega
  rw[u7 i (hsmall _ (.inr rfl)),u6 i (hsmall _ (.inl rfl)),cn5,up i hi']
 have hold:∀i a,i≠t.id->Zh s2.nd t.id m i=some a->s2.nd i=some a:=λi a hi' ha=>by rw[Zj _ _ hi'] at ha;exact ha
 have hkidv:∀{e a},Zh s2.nd t.id m e=some a->e≠t.id/\s2.nd e=some a\/e=t.id/\a=m:=λ{e a} ha=>by
  by_cases he:e=t.id
  . subst he;rw[Kp] at ha;cases ha;exact .inr ⟨rfl,rfl⟩
  . exact .inl ⟨he,hold e a he ha⟩
 have rlt:∀e a,Zh s2.nd t.id m e=some a->∃a',s2.nd e=some a'/\rl (T.map (·.id)) k (lvf s0) e a.v=rl (T.map (·.id)) k (lvf s0) e a'.v:=λe a ha=>by
  rcases hkidv ha with⟨_,h2⟩|⟨h1,h2⟩
  . exact⟨a,h2,rfl⟩
  . subst h1;exact⟨t.n,hn2,by unfold rl;rw[jAb hti,jAb hti]⟩
 have mdone:∀c,(c=lo\/c=hi)->∀a,s2.nd (c/2)=some a->(a.v=x/\c/2∉T.map (·.id))\/k+1<lvf s0 a.v:=λc hc a ha=>by rcases hc with rfl|rfl;exact clo a ha;exact c2 a ha
 have hmem:∀i,i∈(t::rest).map (·.id)↔i=t.id\/i∈rest.map (·.id):=λi=>by rw[jDb,jBa]
 have hyt:y<s2.tabs.length:=by rw[m2.tabl];exact u.hy
 refine⟨s7,?_,⟨by rw[o57.vars,<- hS5];exact o24.vars.trans m2.vars,by rw[o57.lev,<- hS5];exact o24.lev.trans m2.lev,by rw[tabs7,jJa];exact m2.tabl,by rw[pl7];exact g1,by rw[pl7,g3,o24.pl];exact m2.room,by rw[n7];exact hcan,?_,?_,?_,?_,?_,?_,?_,?_,?_,?_,?_,?_,?_,?_⟩⟩
 . simp only[St.turn1,b1,b2,Option.bind_some,r3,r4]
   rw[hm,hS5,r6];exact r7
 . rw[n7]
   intro id n hn c hc a ha;obtain⟨a',ha',hra⟩:=rlt _ a ha;rw[hra];rcases hkidv hn with⟨h1,h2⟩|⟨h1,h2⟩
   . exact m2.ordr id n h2 c hc a' ha'
   . subst h1 h2
     have hcc:c=lo\/c=hi:=by rcases hc with hc|hc;exact .inl (hc.trans ml);exact .inr (hc.trans mh)
     have e1:rl (T.map (·.id)) k (lvf s0) t.id n.v=k:=by unfold rl;rw[jAb hti]
     rw[e1];rcases mdone c hcc a' ha' with⟨h3,h4⟩|h3
     . unfold rl;rw[jAa h4,jAb (by rw[h3,u.lx])];omega
     . rw[m2.rl_low u hsub ha' h3];omega
 . rw[n7]
   intro id n hn;rcases hkidv hn with⟨_,h2⟩|⟨_,h2⟩
   . exact m2.vlt id n h2
   . rw[h2,mv];exact u.hy
 . rw[n7]
   intro d hd;rw[Zj _ _ (by
    intro he;exact hnd1 (he ▸ jF.2 ⟨d,hd,rfl⟩))]
   exact m2.todo d (.tail _ hd)
 . rw[n7]
   intro id hid hir;by_cases hi':id=t.id
   . subst hi'
     refine⟨m,Kp _ _ _,mv,λc hc a ha=>?_⟩;have hcc:c=lo\/c=hi:=by rcases hc with hc|hc;exact .inl (hc.trans ml);exact .inr (hc.trans mh)
     have hct:∀a',s2.nd (c/2)=some a'->a'.v≠y:=λa' ha' hay=>by
      rcases mdone c hcc a' ha' with⟨h3,_⟩|h3
      . exact u.xy (h3.symm.trans hay)
      . rw[hay,u.ly] at h3;omega
     rcases hkidv ha with⟨_,h2⟩|⟨h1,h2⟩
     . exact hct a h2
     . rw[h1] at hct
       rcases mdone c hcc t.n (by rw[h1];exact hn2) with⟨_,h4⟩|h3
       . rw[h1] at h4;exact absurd hti h4
       . rw[hnv,u.lx] at h3;omega
   . obtain⟨n,hn,hv,hch⟩:=m2.done id hid λhr=>by
       rcases (hmem id).1 hr with h1|h1
       . exact hi' h1
       . exact hir h1
     refine⟨n,by rw[Zj _ _ hi'];exact hn,hv,λc hc a ha=>?_⟩;rcases hkidv ha with⟨_,h2⟩|⟨h1,h2⟩
     . exact hch c hc a h2
     . exfalso
       have h3:=m2.ordr id n hn c hc t.n (by rw[h1];exact hn2);unfold rl at h3;rw[jAb hid,h1,jAb hti] at h3;omega
 . rw[n7]
   intro id n hn hi';rw[Zj _ _ (by rintro rfl;exact hi' hti)];exact m2.keep id n hn hi'
 . rw[n7]
   intro id n hn h0;rcases hkidv hn with⟨_,h2⟩|⟨h1,_⟩
   . exact m2.new id n h2 h0
   . rw[h1,hn0] at h0;cases h0
 . rw[n7]
   intro id hid;rw[refsf_put hn2,mr];unfold Qt;split
   . have:=m2.refs id hid;omega
   . exact m2.refs id hid
 . rw[n7]
   intro e he;exact⟨(vput e).2 (V e he),λρ=>by rw[hdn e (V e he),D e he]⟩
 . intro id n hn hc
   rw[up7 id ?_]
   . exact m2.live id n hn hc
   . rcases hc with hc|hc
     . obtain⟨a,ha⟩:=yF.1 (m2.ids_some hc)
       rw[Yb ha];unfold rl;rw[jAb hc];exact jBb _
     . by_cases hid:id∈T.map (·.id)
       . obtain⟨a,ha⟩:=yF.1 (m2.ids_some hid)
         rw[Yb ha];unfold rl;rw[jAb hid];exact jBb _
       . rw[Yb (m2.keep id n hn hid)]
         unfold rl;rw[jAa hid,jAa (by omega)];omega
 . intro v hv
   rw[n7];unfold St.tab;rw[tabs7,Zm _ _ _ _ _ hyt];split
   . rename_i he
     subst he
     have:=m2.tab v hv;rw[<- ml,<- mh];refine this.put (Kp _ _ _) mv hnd1 (λa ha hav=>absurd (hnv.symm.trans ((by rw[hn2] at ha;cases ha;exact hav))) u.xy) (λi a hi' _=>?_) ?_
     . rw[Zj _ _ hi',hmem]
       constructor
       . rintro⟨h1,h2⟩;exact⟨h1,λh3=>h2 (.inr h3)⟩
       . rintro⟨h1,h2⟩;exact⟨h1,λh3=>h3.elim hi' h2⟩
     . rw[ml,mh]
       cases hf:findT (s2.tab v) lo hi with
       | none=>rfl
       | some i =>
         obtain⟨_,a,ha,hav,h1,h2⟩:=this.find_node hf
         have:=m2.can.can (2*i) (2*t.id) (.inr (by rw[show 2*i/2=i by omega,ha];rfl)) (.inr (by rw[show 2*t.id/2=t.id by omega,hn2];rfl)) λρ=>by rw[Xc m2.can.toAcyc ha,hav,h1,h2,hden]
         have hit:i=t.id:=by omega
         rw[hit,hn2] at ha;cases ha;exact absurd (hnv.symm.trans hav) u.xy
   . rename_i he
     refine (m2.tab v hv).congr (λi a ha hav hxx=>?_) (λi a ha hav hxx=>?_)
     . have hi':i≠t.id:=λh1=>hxx ((hmem i).2 (.inl h1))
       exact⟨λh1=>hxx ((hmem i).2 (.inr h1)),a,by rw[Zj _ _ hi'];exact ha,hav,rfl,rfl⟩
     . rcases hkidv ha with⟨h1,h2⟩|⟨h1,h2⟩
       . exact⟨λh3=>((hmem i).1 h3).elim h1 hxx,a,h2,hav,rfl,rfl⟩
       . rw[h2,mv] at hav;exact absurd hav.symm he
 . intro i hi'
   rw[o57.nd] at hi';rw[o57.len];exact cl5 i hi'
 . rw[o57.len,l5,o24.len];exact m2.clen
 . rw[n7,pl7,g5,o24.pl]
   refine rc7.congr λi _=>?_
   rw[refsf_put hn2,mr];unfold Qt;split <;> omega
 . obtain⟨U,hU1,hU2,hU3⟩:=m2.used
   refine⟨U,hU1,λq hq=>⟨(hU2 q hq).1,?_⟩,by rw[pl7,g4,o24.pl];exact hU3⟩;unfold St.tab;rw[tabs7,Zm _ _ _ _ _ hyt,jAa u.xy];exact (hU2 q hq).2
end
end G
namespace G
theorem Can.rerank{G:Gr}{r r':Nat->Nat}(h:Can G r)(a:Acyc G r'):Can G r':={ toAcyc:=a,even:=h.even,ne:=h.ne,can:=h.can,indl:=h.indl,indh:=h.indh }
theorem acyc_of{G:Gr}{r:Nat->Nat}(h:Can G r)(f:Nat->Nat->Nat)(hf:∀id n,G id=some n->f id n.v<70)(ho:∀id n,G id=some n->∀c,(c=n.lo\/c=n.hi)->∀m,G (c/2)=some m->f id n.v<f (c/2) m.v){r':Nat->Nat}(hr:∀id n,G id=some n->r' id=70-f id n.v)(ht:∀id,r' id+2<fuel):Acyc G r':=by
 refine⟨h.g0,ht,λid n hn=>⟨(h.lo id n hn).1,λh0=>?_⟩,λid n hn=>⟨(h.hi id n hn).1,λh0=>?_⟩⟩
 . obtain⟨m,hm⟩:=yF.1 ((h.lo id n hn).1.resolve_left h0)
   have:=ho id n hn _ (.inl rfl) m hm
   have:=hf _ m hm;rw[hr id n hn,hr _ m hm];omega
 . obtain⟨m,hm⟩:=yF.1 ((h.hi id n hn).1.resolve_left h0)
   have:=ho id n hn _ (.inr rfl) m hm
   have:=hf _ m hm;rw[hr id n hn,hr _ m hm];omega
theorem cut_all{G:Gr}{v:Nat}(hu:Uniq G):∀(L:List Td) (t:List Ent) (ex:Nat->Prop),TabOk G v ex t->(∀d∈L,G d.id=some d.n/\d.n.v=v)->TabOk G v (λi=>ex i\/i∈L.map (·.id)) (L.foldl (λt d=>cutT t d.n.lo d.n.hi) t)
 | [],t,ex,h,_=>h.congr (λi n hn hv hx=>⟨λhc=>hc.elim hx (by simp),n,hn,hv,rfl,rfl⟩) (λi n hn hv hx=>⟨λhc=>hx (.inl hc),n,hn,hv,rfl,rfl⟩)
 | d::L,t,ex,h,hL=>by
   obtain⟨h1,h2⟩:=hL d (.head _)
   have:=cut_all hu L _ (λi=>ex i\/i=d.id) (h.cut hu h1 h2 (λ_ _ _=>.inr rfl) λi m hi _=>⟨λ⟨a,b⟩=>⟨a,λhc=>hc.elim b hi⟩,λ⟨a,b⟩=>⟨a,λhc=>b (.inl hc)⟩⟩) λe he=>hL e (.tail _ he)
   refine this.congr (λi n hn hv hx=>⟨λhc=>hx ?_,n,hn,hv,rfl,rfl⟩) (λi n hn hv hx=>⟨λhc=>hx ?_,n,hn,hv,rfl,rfl⟩)
   . rcases hc with hc|hc
     . exact .inl (.inl hc)
     . rw[jDb,jBa] at hc
       exact hc.elim (λe=>.inl (.inr e)) .inr
   . rcases hc with (hc|hc)|hc
     . exact .inl hc
     . exact .inr (by rw[hc];exact .head _)
     . exact .inr (by rw[jDb];exact .tail _ hc)
theorem PermOk.flip{s:St}(h:PermOk s){k x y:Nat}(hk:k+1<s.vars.length)(hx:s.vars.getD k 0=x)(hy:s.vars.getD (k+1) 0=y) :
  PermOk (s.flipLev k)/\lvf (s.flipLev k) x=k+1/\lvf (s.flipLev k) y=k/\(∀v,v≠x->v≠y->lvf (s.flipLev k) v=lvf s v)/\(s.flipLev k).vars.length=s.vars.length/\lvf s x=k/\lvf s y=k+1/\x<s.vars.length/\y<s.vars.length:=by
 obtain⟨hx1,hx2⟩:=h.vl k (by omega);obtain⟨hy1,hy2⟩:=h.vl (k+1) hk;rw[hx] at hx1 hx2;rw[hy] at hy1 hy2;have hxy:x≠y:=by rintro rfl;omega
 have hlv:∀v,lvf (s.flipLev k) v=if v=y then k else if v=x then k+1 else lvf s v:=λv=>by
  unfold lvf St.flipLev;simp only[hx,hy];rw[Zm _ _ _ _ _ (by rw[jJa,h.lev];exact hy1),Zm _ _ _ _ _ (by rw[h.lev];exact hx1)]
 have hvs:∀j,(s.flipLev k).vars.getD j 0=if j=k+1 then x else if j=k then y else s.vars.getD j 0:=λj=>by
  unfold St.flipLev;simp only[hx,hy];rw[Zm _ _ _ _ _ (by rw[jJa];exact hk),Zm _ _ _ _ _ (by omega)]
 have hlen:(s.flipLev k).vars.length=s.vars.length:=by unfold St.flipLev;simp
 refine⟨⟨by rw[hlen];exact h.le,by rw[hlen,<- h.lev];unfold St.flipLev;simp,by rw[hlen];exact h.tabs,?_,?_⟩,by rw[hlv,jAa hxy,jAb rfl],by rw[hlv,jAb rfl],λv h1 h2=>by rw[hlv,jAa h2,jAa h1],hlen,hx2,hy2,hx1,hy1⟩
 . rw[hlen]
   intro v hv;rw[hlv];by_cases h1:v=y
   . subst h1;rw[jAb rfl,hvs,jAa (by omega),jAb rfl];exact⟨by omega,rfl⟩
   . by_cases h2:v=x
     . subst h2;rw[jAa h1,jAb rfl,hvs,jAb rfl];exact⟨hk,rfl⟩
     . rw[jAa h1,jAa h2]
       obtain⟨a,b⟩:=h.lv v hv;refine⟨a,?_⟩;rw[hvs,jAa (by intro e;rw[e,hy] at b;exact h1 b.symm),jAa (by intro e;rw[e,hx] at b;exact h2 b.symm)];exact b
 . rw[hlen]
   intro j hj;rw[hvs];by_cases h1:j=k+1
   . subst h1;rw[jAb rfl,hlv,jAa hxy,jAb rfl];exact⟨hx1,rfl⟩
   . by_cases h2:j=k
     . subst h2;rw[jAa h1,jAb rfl,hlv,jAb rfl];exact⟨hy1,rfl⟩
     . rw[jAa h1,jAa h2]
       obtain⟨a,b⟩:=h.vl j hj;refine⟨a,?_⟩;rw[hlv,jAa (by intro e;rw[e] at b;omega),jAa (by intro e;rw[e] at b;omega)];exact b
section
variable{B:Nat} {s0:St} {k x y:Nat} {T:List Td} {Q:List (Nat×Nat)}
theorem Setup.lv64(u:Setup B s0 k x y T Q){v:Nat}(hv:v<s0.vars.length):lvf s0 v<64:=by have:=(u.ok.pm.lv v hv).1;have:=u.ok.pm.le;omega
theorem Setup.rl70(u:Setup B s0 k x y T Q){id v:Nat}(hv:v<s0.vars.length):rl (T.map (·.id)) k (lvf s0) id v<70:=by
 have:=u.lv64 hv
 have:=u.k64;unfold rl;split
 . omega
 . split <;> omega
theorem Setup.ids(u:Setup B s0 k x y T Q){id:Nat}(hi:id∈T.map (·.id)){n:Nd}(hn:s0.nd id=some n):n.v=x:=by
 obtain⟨t,ht,rfl⟩:=jF.1 hi;obtain⟨h1,h2⟩:=u.node t ht;rw[hn] at h1;cases h1;exact h2
theorem Setup.ordr(u:Setup B s0 k x y T Q):∀id n,s0.nd id=some n->∀c,(c=n.lo\/c=n.hi)->∀m,s0.nd (c/2)=some m->rl (T.map (·.id)) k (lvf s0) id n.v<rl (T.map (·.id)) k (lvf s0) (c/2) m.v:=by
 intro id n hn c hc m hm;have hlt:lvf s0 n.v<lvf s0 m.v:=by rcases hc with rfl|rfl;exact u.ok.ord.lo id n hn (jC _) m hm;exact u.ok.ord.hi id n hn (jC _) m hm
 have idv:∀{i a},i∈T.map (·.id)->s0.nd i=some a->lvf s0 a.v=k:=λhi ha=>by rw[u.ids hi ha,u.lx]
 unfold rl;by_cases h1:id∈T.map (·.id)
 . have e1:=idv h1 hn
   have h2:c/2∉T.map (·.id):=λh=>by have:=idv h hm;omega
   rw[jAb h1,jAa h2,jAa (by omega)];omega
 . rw[jAa h1]
   by_cases h3:lvf s0 n.v=k
   . have hnx:n.v=x:=u.ok.pm.inj (u.ok.vars id n hn) u.hx (by rw[h3,u.lx])
     obtain⟨l1,l2⟩:=u.all id n hn hnx h1;have h4:k+1<lvf s0 m.v:=by rcases hc with rfl|rfl;exact l1.2 m hm;exact l2.2 m hm
     have h2:c/2∉T.map (·.id):=λh=>by have:=idv h hm;omega
     rw[jAb h3,jAa h2,jAa (by omega)];exact h4
   . rw[jAa h3]
     by_cases h2:c/2∈T.map (·.id)
     . rw[jAb h2];have:=idv h2 hm;omega
     . rw[jAa h2]
       split <;> omega
theorem Setup.mid(u:Setup B s0 k x y T Q):Mid s0 k x y T Q T ((s0.flipLev k).cutAll x T):=by
 have hnd:((s0.flipLev k).cutAll x T).nd=s0.nd:=rfl;have htx:x<s0.tabs.length:=by rw[u.ok.pm.tabs];exact u.hx
 refine⟨rfl,rfl,?_,u.ok.pl,rfl,?_,u.ordr,u.ok.vars,λt ht=>(u.node t ht).1,λid hi hr=>absurd hi hr,λid n hn _=>hn,λid n hn h0=>?_,λid _=>rfl,λe he=>⟨he,λ_=>rfl⟩,λid n hn _=>u.live id (by rw[hn];rfl),?_,u.ok.cl,u.ok.clen,u.ok.rc,⟨[],by simp,by simp,rfl⟩⟩
 . show (s0.tabs.set x _).length=_
   rw[jJa];exact u.ok.pm.tabs
 . exact u.ok.can.rerank (acyc_of u.ok.can (rl (T.map (·.id)) k (lvf s0)) (λid n hn=>u.rl70 (u.ok.vars id n hn)) u.ordr (λid n hn=>Yb hn) (rkm_top _ _ _ _))
 . rw[hnd] at hn;rw[h0] at hn;cases hn
 . intro v hv
   rw[hnd];show TabOk s0.nd v _ ((s0.tabs.set x _).getD v [])
   rw[Zm _ _ _ _ _ htx];split
   . rename_i he
     subst he;have h1:=cut_all u.ok.can.uniq T (s0.tab v) (λ_=>False) (u.ok.tab v hv) u.node;exact h1.congr (λi n hn hv hx=>⟨λhc=>hx (.inr hc),n,hn,hv,rfl,rfl⟩) (λi n hn hv hx=>⟨λhc=>hc.elim (λh=>h) hx,n,hn,hv,rfl,rfl⟩)
   . rename_i he
     refine (u.ok.tab v hv).congr (λi n hn hnv hx=>⟨λhc=>he (hnv.symm.trans (u.ids hc hn)),n,hn,hnv,rfl,rfl⟩) (λi n hn hnv hx=>⟨λhc=>hc,n,hn,hnv,rfl,rfl⟩)
theorem Mid.all(u:Setup B s0 k x y T Q)(hB:B<1152921504606846976):∀(rest:List Td) (s:St),(∀d∈rest,d∈T)->(rest.map (·.id)).Nodup->Mid s0 k x y T Q rest s->∃s',St.turns s x y rest=some s'/\Mid s0 k x y T Q [] s'
 | [],s,_,_,h=>⟨s,rfl,h⟩
 | t::rest,s,hs,hd,h=>by
   obtain⟨s1,h1,h2⟩:=h.step u hB hs hd;obtain⟨s2,h3,h4⟩:=Mid.all u hB rest s1 (λd hd'=>hs d (.tail _ hd')) (jMa.1 hd).2 h2;exact⟨s2,by simp only[St.turns,h1,Option.bind_some,h3],h4⟩
theorem Mid.end_{s:St}(u:Setup B s0 k x y T Q)(hk:k+1<s0.vars.length)(hx:s0.vars.getD k 0=x)(hy:s0.vars.getD (k+1) 0=y)(h:Mid s0 k x y T Q [] s):StOk B s:=by
 obtain⟨p1,p2,p3,p4,p5,p6,p7,p8,p9⟩:=u.ok.pm.flip hk hx hy;have hlv:lvf s=lvf (s0.flipLev k):=by unfold lvf;rw[h.lev]
 have hvl:s.vars.length=s0.vars.length:=by rw[h.vars,p5]
 have hsub:∀d∈([]:List Td),d∈T:=by simp
 have hord:∀id n,s.nd id=some n->∀c,(c=n.lo\/c=n.hi)->∀m,s.nd (c/2)=some m->lvf s n.v<lvf s m.v:=by
  intro id n hn c hc m hm;rw[hlv];have h1:=h.ordr id n hn c hc m hm;have lev:∀{i a},s.nd i=some a->(a.v=y/\lvf (s0.flipLev k) a.v=k/\(rl (T.map (·.id)) k (lvf s0) i a.v=k/\i∈T.map (·.id)\/rl (T.map (·.id)) k (lvf s0) i a.v=k+1))\/(a.v≠y/\lvf (s0.flipLev k) a.v=rl (T.map (·.id)) k (lvf s0) i a.v):=by
   intro i a ha;by_cases hay:a.v=y
   . refine .inl ⟨hay,by rw[hay];exact p3,?_⟩
     unfold rl;by_cases hi:i∈T.map (·.id)
     . rw[jAb hi];exact .inl ⟨rfl,hi⟩
     . rw[jAa hi,hay,p7,jAa (by omega)];exact .inr rfl
   . refine .inr ⟨hay,?_⟩
     have hi:i∉T.map (·.id):=λhi=>by
      rcases h.ids_v u hsub hi ha with⟨_,h2⟩|⟨h2,_⟩
      . simp at h2
      . exact hay h2
     unfold rl;rw[jAa hi];by_cases hax:a.v=x
     . rw[hax,p2,p6,jAb rfl]
     . rw[p4 _ hax hay,jAa]
       intro e;exact hax (u.ok.pm.inj (h.vlt i a ha) u.hx (by rw[e,p6]))
  rcases lev hm with⟨e1,e2,e3⟩|⟨e1,e2⟩
  . rw[e2]
    rcases lev hn with⟨f1,f2,f3⟩|⟨f1,f2⟩
    . exfalso
      rcases f3 with⟨f3,f4⟩|f3
      . obtain⟨n',hn',_,hch⟩:=h.done id f4 (by simp)
        rw[hn] at hn';cases hn';exact hch c hc m hm e1
      . rcases e3 with⟨e3,_⟩|e3 <;> omega
    . rw[f2]
      rcases e3 with⟨e3,_⟩|e3
      . omega
      . rcases jYb (rl (T.map (·.id)) k (lvf s0) id n.v) k with g|g
        . exact g
        . exfalso
          have g2:rl (T.map (·.id)) k (lvf s0) id n.v=k:=by omega
          have hi:id∉T.map (·.id):=λhi=>by
           rcases h.ids_v u hsub hi hn with⟨_,h2⟩|⟨h2,_⟩
           . simp at h2
           . exact f1 h2
          unfold rl at g2;rw[jAa hi] at g2;split at g2 <;> omega
  . rw[e2]
    rcases lev hn with⟨f1,f2,f3⟩|⟨f1,f2⟩
    . rw[f2];rcases f3 with⟨f3,_⟩|f3 <;> omega
    . rw[f2];exact h1
 refine⟨⟨by rw[hvl];exact u.ok.pm.le,by rw[h.lev,h.vars];exact p1.lev,by rw[h.tabl,hvl],by rw[hlv,h.vars];exact p1.lv,by rw[hlv,h.vars];exact p1.vl⟩,h.pl,?_,by rw[hvl];exact h.vlt,⟨λid n hn _=>hord id n hn _ (.inl rfl),λid n hn _=>hord id n hn _ (.inr rfl)⟩,?_,h.cl,h.clen,h.rc,λid n hn=>?_⟩
 . refine h.can.rerank (acyc_of h.can (λ_ v=>lvf s v) (λid n hn=>?_) hord (λid n hn=>Xz hn) (rkf_top _ _))
   have h1:=(p1.lv n.v (by rw[p5];exact h.vlt id n hn)).1;have h2:=p1.le;rw[hlv];omega
 . intro v hv
   rw[hvl] at hv;exact (h.tab v hv).congr (λi n hn hnv hx=>⟨λhc=>hc,n,hn,hnv,rfl,rfl⟩) (λi n hn hnv hx=>⟨by simp,n,hn,hnv,rfl,rfl⟩)
 . cases hs:s0.nd id with
   | none=>rw[(h.new id n hn hs).2];exact jC _
   | some n0 =>
     have h1:=h.refs id (by rw[hs];rfl);unfold Qg at h1;rw[hn,hs] at h1;have h2:=u.ok.refs id n0 hs;have h1:(n.refs:Int)=n0.refs:=h1;omega
end
structure Swp (B:Nat) (s0 s2:St) (k:Nat):Prop where
 ok:StOk B s2
 dead:s2.dead=0
 vars:s2.vars=(s0.flipLev k).vars
 lev:s2.lev=(s0.flipLev k).lev
 room:s2.pl.room=s0.pl.room
 refs:∀id,Qg s2.nd id=Qg s0.nd id
 dens:∀e,val s0.nd e->val s2.nd e->∀ρ,den s2.nd e ρ=den s0.nd e ρ
 uniq:∀e f,val s0.nd e->val s2.nd f->(∀ρ,den s2.nd f ρ=den s0.nd e ρ)->e=f
theorem StOk.swap{B:Nat}{s:St}(h:StOk B s)(hB:B<1152921504606846976){k:Nat}(hk:k+1<s.vars.length) :
  ∃s0,Coll B s s0/\((s.swap k=some (s0,7)/\s0.pl.room<3*many s0.pl.slots)\/∃s2,s.swap k=some (s2,0)/\Swp B s0 s2 k):=by
 obtain⟨s0,r0,c0⟩:=h.collect;refine⟨s0,c0,?_⟩;have hk0:k+1<s0.vars.length:=by rw[c0.vars];exact hk
 have h0:=c0.ok;obtain⟨p1,p2,p3,p4,p5,p6,p7,p8,p9⟩:=h0.pm.flip hk0 rfl rfl;generalize hx:s0.vars.getD k 0=x at *
 generalize hy:s0.vars.getD (k+1) 0=y at *
 have hlive:∀id,(s0.nd id).isSome=true->0<Qv s0 id:=λid hi=>by
  have:=h0.rc;rw[c0.dead] at this;exact this.no_dead hi
 have htx:=h0.tab x p8;obtain⟨T,t1,t2,t3,t4⟩:=turnOf_ok (s:=s0) (y:=y) (isort ((s0.tab x).map (·.id))) (λid hid=>by
  obtain⟨e,he,rfl⟩:=jF.1 (mem_isort.1 hid);obtain⟨_,n,hn,_⟩:=htx.sound e he;rw[hn];rfl)
 have t1':s0.turn x y=some T:=t1;have nodeT:∀t∈T,s0.nd t.id=some t.n/\t.n.v=x:=λt ht=>by
  obtain⟨g1,g2,_⟩:=t2 t ht;obtain⟨e,he,hid⟩:=jF.1 (mem_isort.1 g1);obtain⟨_,n,hn,hv,_⟩:=htx.sound e he;rw[hid,g2] at hn;cases hn;exact⟨g2,hv⟩
 have lowlo:∀{id n},s0.nd id=some n->n.v=x->Low s0.nd (lvf s0) k n.lo:=λ{id n} hn hv=>⟨(h0.kids id n hn).1,λm hm=>by have:=h0.ord.lo id n hn (jC _) m hm;rw[hv,p6] at this;exact this⟩
 have lowhi:∀{id n},s0.nd id=some n->n.v=x->Low s0.nd (lvf s0) k n.hi:=λ{id n} hn hv=>⟨(h0.kids id n hn).2,λm hm=>by have:=h0.ord.hi id n hn (jC _) m hm;rw[hv,p6] at this;exact this⟩
 have S1:∀t∈T,_:=λt ht=>h0.split p9 p7 (lowlo (nodeT t ht).1 (nodeT t ht).2)
 have S2:∀t∈T,_:=λt ht=>h0.split p9 p7 (lowhi (nodeT t ht).1 (nodeT t ht).2)
 obtain⟨Q,q1,q2,q3,q4,q5⟩:=wants_ok s0 x T;have hTlen:T.length<=many s0.pl.slots:=by
  have h1:(T.map (·.id)).Nodup:=qC t4 (nodup_isort htx.nodup);have h2:=nodup_sub_len (T.map (·.id)) (s0.nodes.map (·.1)) h1 λa ha=>by
   obtain⟨t,ht,rfl⟩:=jF.1 ha;exact jF.2 ⟨(t.id,t.n),mem_nodes.2 (nodeT t ht).1,rfl⟩
  rw[jHb,jHb,length_nodes h0.pl] at h2;exact h2
 have hrun:s.swap k=if s0.pl.room<s0.wants x T+many s0.pl.slots then some (s0,7) else (St.turns ((s0.flipLev k).cutAll x T) x y T).bind λs1=>s1.collect.map λ(s2,_)=>(s2,0):=by
  unfold St.swap;rw[jAa (by omega),Int.toNat_natCast,r0];simp only[Option.bind_some,hx,hy,t1']
 by_cases hroom:s0.pl.room<s0.wants x T+many s0.pl.slots
 . rw[jAb hroom] at hrun
   exact .inl ⟨hrun,by omega⟩
 . rw[jAa hroom] at hrun
   have u:Setup B s0 k x y T Q:=by
    refine⟨h0,p8,p9,p6,p7,hlive,nodeT,?_,?_,?_,?_,?_,?_,?_,λt ht=>(t2 t ht).2.2.2.2,?_,qC t4 (nodup_isort htx.nodup),?_,by omega,q5⟩
    . intro t ht;have:=(S1 t ht).1;rw[(t2 t ht).2.2.1] at this;exact this
    . intro t ht;have:=(S1 t ht).2.1;rw[(t2 t ht).2.2.1] at this;exact this
    . intro t ht;have:=(S2 t ht).1;rw[(t2 t ht).2.2.2.1] at this;exact this
    . intro t ht;have:=(S2 t ht).2.1;rw[(t2 t ht).2.2.2.1] at this;exact this
    . intro t ht
      have:=(S2 t ht).2.2.2.1 (h0.can.even _ _ (nodeT t ht).1);rw[(t2 t ht).2.2.2.1] at this;exact this
    . intro t ht;have:=(S1 t ht).2.2.1;rw[(t2 t ht).2.2.1] at this;exact this
    . intro t ht;have:=(S2 t ht).2.2.1;rw[(t2 t ht).2.2.2.1] at this;exact this
    . rintro t ht ⟨g1,g2⟩
      have e1:s0.split t.n.lo y=(t.n.lo,t.n.lo):=by
       rw[split_eq];cases hn:s0.nd (t.n.lo/2) with
       | none=>rfl
       | some n=>simp only;rw[jAa];intro hv;have:=g1.2 n hn;rw[hv,p7] at this;omega
      have e2:s0.split t.n.hi y=(t.n.hi,t.n.hi):=by
       rw[split_eq];cases hn:s0.nd (t.n.hi/2) with
       | none=>rfl
       | some n=>simp only;rw[jAa];intro hv;have:=g2.2 n hn;rw[hv,p7] at this;omega
      obtain⟨_,_,f1,f2,f3⟩:=t2 t ht;rw[e1] at f1;rw[e2] at f2;injection f1 with f1 f1'
      injection f2 with f2 f2'
      rcases f3 with f3|f3
      . exact f3 (f1.symm.trans f1')
      . exact f3 (f2.symm.trans f2')
    . intro id n hn hv hni
      have hid:id∈isort ((s0.tab x).map (·.id)):=mem_isort.2 (jF.2 ⟨_,htx.full id n hn hv (λh=>h),rfl⟩);have hno:¬((s0.split n.lo y).1≠(s0.split n.lo y).2\/(s0.split n.hi y).1≠(s0.split n.hi y).2):=λhc=>hni (t3 id hid n hn hc)
      rw[not_or,Decidable.not_not,Decidable.not_not] at hno;exact⟨(h0.split p9 p7 (lowlo hn hv)).2.2.2.2 hno.1,(h0.split p9 p7 (lowhi hn hv)).2.2.2.2 hno.2⟩
   obtain⟨s1,m1,m2⟩:=Mid.all u hB T _ (λ_ h=>h) u.nodup u.mid;have ok1:=m2.end_ u hk0 hx hy;obtain⟨s2,r2,c2⟩:=ok1.collect;rw[m1,Option.bind_some,r2] at hrun;refine .inr ⟨s2,hrun,c2.ok,c2.dead,by rw[c2.vars,m2.vars],by rw[c2.lev,m2.lev],by rw[c2.room,m2.room],λid=>?_,λe he he2 ρ=>by rw[c2.den e he2,(m2.dens e he).2],λe f he hf hd=>?_⟩
   rotate_left
   . have hf1:val s1.nd f:=hf.imp id λh=>by
       rw[c2.nd] at h;simp only at h;split at h
       . cases h
       . exact h
     exact ok1.can.can e f (m2.dens e he).1 hf1 λρ=>by rw[(m2.dens e he).2,<- hd,c2.den f hf]
   have h1:Qg s1.nd id=Qg s0.nd id:=by
    cases hs:s0.nd id with
    | none =>
      unfold Qg;rw[hs];cases hn:s1.nd id with
      | none=>rfl
      | some n =>
        show (n.refs:Int)=0
        rw[show n.refs=0 from (m2.new id n hn hs).2];rfl
    | some n0=>exact m2.refs id (by rw[hs];rfl)
   rw[<- h1];unfold Qg;rw[c2.nd];simp only;by_cases hc:Qv s1 id=0
   . rw[jAb hc]
     cases hn:s1.nd id with
     | none=>rfl
     | some n =>
       have g1:=ok1.rc.cnt id (by rw[hn];rfl);have g2:=indeg_nonneg s1.nd (Qv s1) s1.pl.slots.length id;unfold Qg at g1;rw[hn,hc] at g1;have g1:((0:Nat):Int)=(n.refs:Int)+Zy s1.nd (Qv s1) s1.pl.slots.length id:=g1;show (0:Int)=(n.refs:Int)
       omega
   . rw[jAa hc]
end G
namespace G
theorem nd_new(n room id:Nat):(St.new n room).nd id=none:=by
 unfold St.nd St.new Pl.nd;simp only;split
 . rfl
 . rename_i h
   obtain⟨j,rfl⟩:∃j,id=j+1:=⟨id-1,by omega⟩;simp
theorem range_getD{n k:Nat}(hk:k<n):(List.range n).getD k 0=k:=by
 rw[yD,kKa hk];rfl
theorem StOk.new{n room:Nat}(hn:n<=64)(h1:1<=room)(hr:room<=1048576):StOk 0 (St.new n room):=by
 have hnd:=nd_new n room;have hG:(St.new n room).nd=λ_=>none:=funext hnd
 have hlv:∀v,v<n->lvf (St.new n room) v=v:=λv hv=>range_getD hv
 have hvars:(St.new n room).vars.length=n:=by simp[St.new]
 refine⟨⟨by rw[hvars];exact hn,by simp[St.new],by simp[St.new],?_,?_⟩,⟨hr,rfl,by simp[St.new],by simp[St.new],rfl,?_⟩,?_,?_,?_,?_,?_,by simp[St.new],?_,?_⟩
 . rw[hvars];intro v hv;rw[hlv v hv];exact⟨hv,range_getD hv⟩
 . rw[hvars];intro k hk
   rw[show (St.new n room).vars.getD k 0=k from range_getD hk];exact⟨hk,hlv k hk⟩
 . show 1<=room+1
   omega
 . rw[hG]
   refine { g0:=rfl,top:=rkf_top _ _,lo:=λ_ _ h=>(by cases h),hi:=λ_ _ h=>(by cases h),even:=λ_ _ h=>(by cases h),ne:=λ_ _ h=>(by cases h),can:=λe f he hf hall=>?_,indl:=λ_ _ h=>(by cases h),indh:=λ_ _ h=>(by cases h) };have e0:e/2=0:=he.resolve_right (by simp);have f0:f/2=0:=hf.resolve_right (by simp)
   have:=hall λ_=>true
   rw[Qp rfl e0,Qp rfl f0] at this;have h2:e%2=f%2:=by
    rcases jKa e with h|h <;> rcases jKa f with h'|h' <;> simp[h,h'] at this ⊢
   omega
 . intro id m h;rw[hnd] at h;cases h
 . rw[hG];exact⟨λ_ _ h=>(by cases h),λ_ _ h=>(by cases h)⟩
 . intro v hv
   rw[hvars] at hv;have ht:(St.new n room).tab v=[]:=by
    unfold St.tab St.new;simp only;rw[yD,kUa,jAb hv];rfl
   rw[ht,hG];exact⟨by simp,λ_ _ h=>(by cases h),by simp⟩
 . intro id h;rw[hnd] at h;cases h
 . rw[hG]
   refine⟨λ_ h=>(by cases h),λ_ h=>(by cases h),?_⟩;refine (sumTo_zero (λi=>?_) _).symm;unfold Kc;simp
 . intro id m h;rw[hnd] at h;cases h
end G
end Go.Proofs.YtidamcdklgfogaaGreat
