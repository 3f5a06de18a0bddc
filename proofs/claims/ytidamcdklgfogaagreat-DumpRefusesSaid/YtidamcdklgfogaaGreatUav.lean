import Derived.Test.YtidamcdklgfogaaGreatUau
set_option linter.unusedVariables false
set_option linter.unusedSimpArgs false
set_option maxRecDepth 100000
set_option maxHeartbeats 8000000
namespace Go.Proofs.YtidamcdklgfogaaGreat
namespace G
def iteF(φ ψ χ:Fn):Fn:=λρ=>if φ ρ then ψ ρ else χ ρ
abbrev Sem:=Nat->Fn->Fn->Fn->Fn
def MeOk(S:Sem)(G:Gr)(me:Memo):Prop:=∀i e,me i=some e->val G e.a/\val G e.b/\val G e.c/\val G e.r/\den G e.r=S e.op (den G e.a) (den G e.b) (den G e.c)
theorem MeOk.none(S:Sem)(G:Gr):MeOk S G Memo.none:=λi e h=>by cases h
theorem MeOk.gro{S:Sem}{Q:Tb->Prop}{s s':St}{me:Memo}(h:MeOk S s.nd me)(g:Gro Q s s'):MeOk S s'.nd me:=λi e he=>by
 obtain⟨h1,h2,h3,h4,h5⟩:=h i e he;refine⟨g.val h1,g.val h2,g.val h3,g.val h4,?_⟩;rw[g.dens _ h1,g.dens _ h2,g.dens _ h3,g.dens _ h4,h5]
theorem MeOk.put{S:Sem}{G:Gr}{me:Memo}(h:MeOk S G me){op a b c r:Nat}(ha:val G a)(hb:val G b)(hc:val G c)(hr:val G r)(hd:den G r=S op (den G a) (den G b) (den G c)):MeOk S G (me.put op a b c r):=λi e he=>by
 unfold Memo.put at he;split at he
 . injection he with he;subst he;exact⟨ha,hb,hc,hr,hd⟩
 . exact h i e he
theorem MeOk.get{S:Sem}{G:Gr}{me:Memo}(h:MeOk S G me){op a b c r:Nat}(hg:me.get op a b c=some r):val G r/\den G r=S op (den G a) (den G b) (den G c):=by
 unfold Memo.get at hg;split at hg
 . rename_i e he
   split at hg
   . rename_i hk
     injection hg with hg;subst hg
     obtain⟨rfl,rfl,rfl,rfl⟩:=hk;obtain⟨_,_,_,h4,h5⟩:=h _ e he;exact⟨h4,h5⟩
   . cases hg
 . cases hg
structure Grew (S:Sem) (B K:Nat) (m m':Mg):Prop where
 ok:StOk B m'.s
 me:MeOk S m'.s.nd m'.me
 gro:Gro (λ_=>True) m.s m'.s
 many:many m'.s.pl.slots<=many m.s.pl.slots+K
 hs:m'.hs=m.hs
 next:m'.next=m.next
 fresh:m'.fresh=m.fresh
theorem Grew.trans{S:Sem}{B K L:Nat}{m m' m'':Mg}(h:Grew S B K m m')(k:Grew S B L m' m''):Grew S B (K+L) m m'' :=
 ⟨k.ok,k.me,h.gro.trans k.gro,by have:=h.many;have:=k.many;omega,k.hs.trans h.hs,k.next.trans h.next,k.fresh.trans h.fresh⟩
theorem Grew.mono{S:Sem}{B K L:Nat}{m m':Mg}(h:Grew S B K m m')(hL:K<=L):Grew S B L m m':=⟨h.ok,h.me,h.gro,by have:=h.many;omega,h.hs,h.next,h.fresh⟩
theorem Grew.refl{S:Sem}{B:Nat}{m:Mg}(h:StOk B m.s)(hm:MeOk S m.s.nd m.me):Grew S B 0 m m:=⟨h,hm,Gro.refl _ _,jBb _,rfl,rfl,rfl⟩
def Ends{α:Type}(K:Nat)(m m':Mg)(R:Mg->α ⊕ Nat->Prop):Rs α->Prop
 | .ok a=>m'.waits=m.waits/\R m' (.inl a)
 | .stop (.event ev)=>m.waits=ev::m'.waits
 | .stop (.err e)=>m'.waits=m.waits/\((e=7/\m.s.pl.room<many m.s.pl.slots+K)\/(e≠7/\R m' (.inr e)))
def Runs{α:Type}(S:Sem)(B K:Nat)(m:Mg)(x:Step α)(R:Mg->α ⊕ Nat->Prop):Prop:=∃m' r,x=some (m',r)/\Grew S B K m m'/\Ends K m m' R r
theorem Ends.mono{α:Type}{K L:Nat}{m m':Mg}{R R':Mg->α ⊕ Nat->Prop}{r:Rs α}(h:Ends K m m' R r)(hL:K<=L)(hR:∀x,R m' x->R' m' x):Ends L m m' R' r:=by
 cases r with
 | ok a=>exact⟨h.1,hR _ h.2⟩
 | stop s=>cases s with
   | event ev=>exact h
   | err e=>exact⟨h.1,h.2.imp (λh=>⟨h.1,by omega⟩) λh=>⟨h.1,hR _ h.2⟩⟩
theorem Runs.mono{α:Type}{S:Sem}{B K L:Nat}{m:Mg}{x:Step α}{R R':Mg->α ⊕ Nat->Prop}(h:Runs S B K m x R)(hL:K<=L)(hR:∀m' y,Grew S B K m m'->R m' y->R' m' y):Runs S B L m x R':=by
 obtain⟨m',r,rfl,g,e⟩:=h;exact⟨m',r,rfl,g.mono hL,e.mono hL λy=>hR m' y g⟩
theorem Runs.pure{α:Type}{S:Sem}{B:Nat}{m:Mg}{a:α}{R:Mg->α ⊕ Nat->Prop}(h:StOk B m.s)(hm:MeOk S m.s.nd m.me)(hR:R m (.inl a)):Runs S B 0 m (some (m,.ok a)) R:=⟨m,_,rfl,Grew.refl h hm,rfl,hR⟩
theorem Runs.fail{α:Type}{S:Sem}{B e:Nat}{m:Mg}{R:Mg->α ⊕ Nat->Prop}(h:StOk B m.s)(hm:MeOk S m.s.nd m.me)(he:e≠7)(hR:R m (.inr e)):Runs S B 0 m (some (m,.stop (.err e)):Step α) R:=⟨m,_,rfl,Grew.refl h hm,rfl,.inr ⟨he,hR⟩⟩
theorem Runs.then{α β:Type}{S:Sem}{B K L:Nat}{m:Mg}{x:Step α}{f:Mg->α->Step β}{R:Mg->α ⊕ Nat->Prop}{R':Mg->β ⊕ Nat->Prop}(h:Runs S B K m x R)
  (he:∀m' e,Grew S B K m m'->R m' (.inr e)->R' m' (.inr e))(hf:∀m' a,Grew S B K m m'->m'.waits=m.waits->R m' (.inl a)->Runs S B L m' (f m' a) R'):Runs S B (K+L) m (x.then f) R':=by
 obtain⟨m',r,rfl,g,hr⟩:=h;cases r with
 | ok a =>
   obtain⟨m2,r2,h2,g2,e2⟩:=hf m' a g hr.1 hr.2;refine⟨m2,r2,h2,g.trans g2,?_⟩;have hw:=hr.1;cases r2 with
   | ok b=>exact⟨e2.1.trans hw,e2.2⟩
   | stop s=>cases s with
     | event ev =>
       have e2:m'.waits=ev::m2.waits:=e2;exact (hw.symm.trans e2:m.waits=ev::m2.waits)
     | err e=>exact⟨e2.1.trans hw,e2.2.imp (λh=>⟨h.1,by have:=g.many;have:=g.gro.room;omega⟩) id⟩
 | stop s=>cases s with
   | event ev=>exact⟨m',_,rfl,g.mono (by omega),hr⟩
   | err e=>exact⟨m',_,rfl,g.mono (by omega),hr.1,hr.2.imp (λh=>⟨h.1,by omega⟩) λh=>⟨h.1,he m' e g h.2⟩⟩
def Isf(φ:Fn)(m:Mg):Nat ⊕ Nat->Prop
 | .inl r=>val m.s.nd r/\den m.s.nd r=φ
 | .inr _=>False
section
variable{B:Nat} {s:St}
theorem StOk.above(h:StOk B s){e v:Nat}(_:val s.nd e)(hi:∀x,x<s.vars.length->lvf s x<=lvf s v->Indep (den s.nd e) x):∀m,s.nd (e/2)=some m->lvf s v<lvf s m.v:=λm hm=>by
 refine Nat.lt_of_not_le λhle=>?_
 have h1:=hi m.v (h.vars _ _ hm) hle;refine h.can.dep hm (e%2==1) ?_
 rwa [edge_split]
def lvE(s:St)(e:Nat):Nat:=match s.nd (e/2) with|some m=>lvf s m.v|none=>s.vars.length
theorem lvE_some{e:Nat}{m:Nd}(hm:s.nd (e/2)=some m):lvE s e=lvf s m.v:=by unfold lvE;rw[hm]
theorem lvE_none{e:Nat}(hm:s.nd (e/2)=none):lvE s e=s.vars.length:=by unfold lvE;rw[hm]
theorem StOk.indepE(h:StOk B s){e x:Nat}(he:val s.nd e)(hx:x<s.vars.length)(hl:lvf s x<lvE s e):Indep (den s.nd e) x:=by
 refine h.low he λm hm=>?_
 rwa [lvE_some hm] at hl
theorem lvE_div{e f:Nat}(h:e/2=f/2):lvE s e=lvE s f:=by unfold lvE;rw[h]
theorem lvE_gro{Q:Tb->Prop}{s':St}(g:Gro Q s s'){e:Nat}(he:val s.nd e)(h0:s'.nd 0=none):lvE s' e=lvE s e:=by
 have hlv:lvf s'=lvf s:=by unfold lvf;rw[g.lev]
 unfold lvE;rw[hlv,g.vars];cases hm:s.nd (e/2) with
 | some m=>rw[g.old _ _ hm]
 | none =>
   rcases he with h|h
   . rw[h,h0]
   . rw[hm] at h;cases h
theorem StOk.splitI(h:StOk B s){f v:Nat}(hf:val s.nd f)(hvn:v<s.vars.length)(hl:lvf s v<=lvE s f)(b:Bool) :
  val s.nd (if b then (s.splitI f v).2 else (s.splitI f v).1)/\den s.nd (if b then (s.splitI f v).2 else (s.splitI f v).1)=(λρ=>den s.nd f (upd ρ v b))/\lvf s v<lvE s (if b then (s.splitI f v).2 else (s.splitI f v).1):=by
 cases hn:s.nd (f/2) with
 | none =>
   have he:s.splitI f v=(f,f):=by unfold St.splitI St.at_;rw[hn];rfl
   have hv:lvf s v<lvE s f:=by rw[lvE_none hn];exact (h.pm.lv v hvn).1
   rw[he];simp only[ite_self];exact⟨hf,funext λρ=>(h.indepE hf hvn hv ρ b).symm,hv⟩
 | some n =>
   rw[lvE_some hn] at hl;by_cases hv:n.v=v
   . subst hv
     have he:s.splitI f n.v=(flipIf n.lo (f%2==1),flipIf n.hi (f%2==1)):=by unfold St.splitI St.at_;rw[hn];simp
     rw[he];have hif:(if b then (flipIf n.lo (f%2==1),flipIf n.hi (f%2==1)).2 else (flipIf n.lo (f%2==1),flipIf n.hi (f%2==1)).1)=flipIf (if b then n.hi else n.lo) (f%2==1):=by cases b <;> rfl
     rw[hif];have hk:=h.can.toAcyc.kid hn b;have hind:Indep (den s.nd (if b then n.hi else n.lo)) n.v:=by cases b;exact h.can.indl _ _ hn;exact h.can.indh _ _ hn
     refine⟨val_flipIf.2 hk.1,funext λρ=>?_,?_⟩
     . rw[Ke,Xy h.can.toAcyc hn,Qq]
       congr 1
       exact (hind ρ b).symm
     . rw[lvE_div (Qx _ _)]
       cases hm:s.nd ((if b then n.hi else n.lo)/2) with
       | none=>rw[lvE_none hm];exact (h.pm.lv _ (h.vars _ _ hn)).1
       | some k=>rw[lvE_some hm];cases b;exact h.ord.lo _ _ hn (jC _) _ hm;exact h.ord.hi _ _ hn (jC _) _ hm
   . have he:s.splitI f v=(f,f):=by
       unfold St.splitI St.at_;rw[hn];show (if ((n.v:Nat):Int)=(v:Int) then _ else _)=_
       rw[jAa (by omega)]
     have hlt:lvf s v<lvE s f:=by
      rw[lvE_some hn];refine Nat.lt_of_le_of_ne hl λe=>hv ?_
      exact (h.pm.inj hvn (h.vars _ _ hn) e).symm
     rw[he];simp only[ite_self];exact⟨hf,funext λρ=>(h.indepE hf hvn hlt ρ b).symm,hlt⟩
theorem StOk.topF(h:StOk B s):∀(l:List Nat) (q:Int×Int),(q=(-1,0)\/∃v,v<s.vars.length/\q=((v:Int),(lvf s v:Int))) ->
  (let r:=l.foldl (λq f=>match s.at_ f with|none=>q|some (v,_,_)=>if q.1<0\/s.level v<q.2 then ((v:Int),s.level v) else q) q
   (r=(-1,0)/\q=(-1,0)/\∀e∈l,s.nd (e/2)=none)\/∃v,v<s.vars.length/\r=((v:Int),(lvf s v:Int))/\(∀x:Nat,q=((x:Int),(lvf s x:Int))->lvf s v<=lvf s x)/\(∀e∈l,lvf s v<=lvE s e)/\((q=((v:Int),(lvf s v:Int)))\/∃e∈l,∃m,s.nd (e/2)=some m/\m.v=v))
 | [],q,hq=>by
   rcases hq with rfl|⟨v,hv,rfl⟩
   . exact .inl ⟨rfl,rfl,by simp⟩
   . refine .inr ⟨v,hv,rfl,λx hx=>?_,by simp,.inl rfl⟩
     have:=jNa Prod.snd hx;simp at this
     omega
 | e::l,q,hq=>by
   simp only[List.foldl_cons];cases hn:s.nd (e/2) with
   | none =>
     have he:s.at_ e=none:=by unfold St.at_;rw[hn];rfl
     rw[he];rcases h.topF l q hq with⟨h1,h2,h3⟩|⟨v,h1,h2,h3,h4,h5⟩
     . exact .inl ⟨h1,h2,by intro x hx;rcases jBa.1 hx with rfl|hx;exact hn;exact h3 x hx⟩
     . refine .inr ⟨v,h1,h2,h3,λx hx=>?_,?_⟩
       . rcases jBa.1 hx with rfl|hx
         . rw[lvE_none hn];exact Nat.le_of_lt (h.pm.lv v h1).1
         . exact h4 x hx
       . rcases h5 with h5|⟨x,hx,m,hm⟩
         . exact .inl h5
         . exact .inr ⟨x,.tail _ hx,m,hm⟩
   | some n =>
     have hnv:=h.vars _ _ hn;have he:s.at_ e=some (n.v,flipIf n.lo (e%2==1),flipIf n.hi (e%2==1)):=by unfold St.at_;rw[hn];rfl
     have hlev:=h.pm.level_nat hnv;rw[he];simp only[hlev];by_cases hc:q.1<0\/(lvf s n.v:Int)<q.2
     . rw[jAb hc]
       rcases h.topF l _ (.inr ⟨n.v,hnv,rfl⟩) with⟨_,h2,_⟩|⟨v,h1,h2,h3,h4,h5⟩
       . exact absurd (jNa Prod.fst h2) (by simp <;> omega)
       . have h6:=h3 n.v rfl
         refine .inr ⟨v,h1,h2,λx hx=>?_,λx hx=>?_,?_⟩
         . subst hx
           simp at hc
           omega
         . rcases jBa.1 hx with rfl|hx
           . rw[lvE_some hn];exact h6
           . exact h4 x hx
         . rcases h5 with h5|⟨x,hx,m,hm⟩
           . refine .inr ⟨e,.head _,n,hn,?_⟩
             have:=jNa Prod.fst h5;simp at this
             omega
           . exact .inr ⟨x,.tail _ hx,m,hm⟩
     . rw[jAa hc]
       rcases h.topF l q hq with⟨_,h2,_⟩|⟨v,h1,h2,h3,h4,h5⟩
       . subst h2;simp at hc
       . refine .inr ⟨v,h1,h2,h3,λx hx=>?_,?_⟩
         . rcases jBa.1 hx with rfl|hx
           . rw[lvE_some hn]
             rcases hq with rfl|⟨y,hy,rfl⟩
             . simp at hc
             . have:=h3 y rfl
               simp at hc
               omega
           . exact h4 x hx
         . rcases h5 with h5|⟨x,hx,m,hm⟩
           . exact .inl h5
           . exact .inr ⟨x,.tail _ hx,m,hm⟩
theorem StOk.topE(h:StOk B s){l:List Nat}(hx:∃e∈l,(s.nd (e/2)).isSome=true):∃v,v<s.vars.length/\(s.topE l).1=(v:Int)/\(∀e∈l,lvf s v<=lvE s e)/\∃e∈l,∃m,s.nd (e/2)=some m/\m.v=v:=by
 rcases h.topF l (-1,0) (.inl rfl) with⟨_,_,h3⟩|⟨v,h1,h2,h3,h4,h5⟩
 . obtain⟨e,he,hs⟩:=hx
   rw[h3 e he] at hs;cases hs
 . refine⟨v,h1,jNa Prod.fst h2,h4,?_⟩
   rcases h5 with h5|h5
   . exact absurd (jNa Prod.fst h5) (by simp <;> omega)
   . exact h5
end
theorem Added.gro{B:Nat}{s s':St}{v lo hi id:Nat}(a:Added s v lo hi s' id)(hd:∀e,val s.nd e->∀ρ,den s'.nd e ρ=den s.nd e ρ)(_:StOk B s):Gro (λ_=>True) s s' where
 vars:=a.vars
 lev:=a.lev
 room:=a.room
 old i n hn:=by rw[a.nd,Qr _ _ (by rintro rfl;rw[a.old] at hn;cases hn)];exact hn
 dens e he:=funext (hd e he)
 new i n h1 h2:=by
  rw[a.nd] at h1;by_cases hi:i=id
  . subst hi;rw[Qm] at h1;injection h1 with h1;subst h1;exact⟨rfl,trivial⟩
  . rw[Qr _ _ hi,h2] at h1;cases h1
theorem Mg.mk_ok{S:Sem}{B:Nat}{m:Mg}(h:StOk B m.s)(hm:MeOk S m.s.nd m.me){v lo hi:Nat}(hv:v<m.s.vars.length)(hl:val m.s.nd lo)(hh:val m.s.nd hi)
  (il:∀x,x<m.s.vars.length->lvf m.s x<=lvf m.s v->Indep (den m.s.nd lo) x)(ih:∀x,x<m.s.vars.length->lvf m.s x<=lvf m.s v->Indep (den m.s.nd hi) x) :
  Runs S B 1 m (m.mk_ v lo hi) (Isf (ite3 v (den m.s.nd hi) (den m.s.nd lo))):=by
 have key:∀c:Int,Runs S B 1 m (({ m with calls:=c }:Mg).mkS v lo hi) (Isf (ite3 v (den m.s.nd hi) (den m.s.nd lo))):=λc=>by
  unfold Mg.mkS;rcases h.make hv hl hh (h.above hl il) (h.above hh ih) with⟨r,h1,h2,h3⟩|⟨h1,h2,_,_⟩|⟨s',id,t,h1,h2,h3,h4,_,h5,h6,_⟩
  . refine⟨{ m with calls:=c },.ok r,?_,⟨h,hm,Gro.refl _ _,Nat.le_succ _,rfl,rfl,rfl⟩,rfl,h2,funext h3⟩
    show (match m.s.mkE v lo hi with|none=>none|some (s,r,e)=>_)=_
    rw[h1];rfl
  . refine⟨{ m with calls:=c },.stop (.err 7),?_,⟨h,hm,Gro.refl _ _,Nat.le_succ _,rfl,rfl,rfl⟩,rfl,.inl ⟨rfl,by omega⟩⟩
    show (match m.s.mkE v lo hi with|none=>none|some (s,r,e)=>_)=_
    rw[h1];rfl
  . have g:=h2.gro h5 h
    refine⟨{ m with calls:=c,s:=s' },.ok (G.edge id t),?_,⟨h3,hm.gro g,g,by show _<=_;rw[h2.many];exact jBb _,rfl,rfl,rfl⟩,rfl,?_,funext h6⟩
    . show (match m.s.mkE v lo hi with|none=>none|some (s,r,e)=>_)=_
      rw[h1];rfl
    . show val s'.nd _
      rw[h2.nd];exact val_some (Qm _ _ _) _
 unfold Mg.mk_
 dsimp only
 split
 . rename_i ev l hw
   split
   . exact⟨_,_,rfl,⟨h,hm,Gro.refl _ _,Nat.le_succ _,rfl,rfl,rfl⟩,hw⟩
   . exact key _
 . exact key _
end G
namespace G
section
variable{G:Gr}
theorem den_zero(g0:G 0=none)(ρ:Nat->Bool):den G 0 ρ=true:=Qp g0 rfl ρ
theorem den_one(g0:G 0=none)(ρ:Nat->Bool):den G 1 ρ=false:=Qp g0 rfl ρ
theorem iteF_congr{φ ψ ψ' χ χ':Fn}(ρ:Nat->Bool)(h1:φ ρ=true->ψ' ρ=ψ ρ)(h2:φ ρ=false->χ' ρ=χ ρ):iteF φ ψ χ ρ=iteF φ ψ' χ' ρ:=by
 unfold iteF;cases h:φ ρ with
 | true=>simp[h1 h]
 | false=>simp[h2 h]
theorem iteE_ok(g0:G 0=none)(f g h:Nat):match iteE f g h with
  | .inl r=>(∀Q:Nat->Prop,Q 0->Q (f/2)->Q (g/2)->Q (h/2)->Q (r/2))/\∀ρ,iteF (den G f) (den G g) (den G h) ρ=den G r ρ
  | .inr (a,b,c,n)=>(∀Q:Nat->Prop,Q 0->Q (f/2)->Q (g/2)->Q (h/2)->Q (a/2)/\Q (b/2)/\Q (c/2))/\a/2≠0/\∀ρ,iteF (den G f) (den G g) (den G h) ρ=(n ^^ iteF (den G a) (den G b) (den G c) ρ):=by
 unfold iteE;have hg:∀g' ,g'=(if g=f then 0 else if g=flip f then 1 else g)->(∀Q:Nat->Prop,Q 0->Q (g/2)->Q (g'/2))/\∀ρ,den G f ρ=true->den G g' ρ=den G g ρ:=by
  rintro _ rfl;split
  . rename_i e;subst e
    exact⟨λQ q _=>q,λρ hρ=>by rw[den_zero g0,hρ]⟩
  . split
    . rename_i e;subst e
      exact⟨λQ q _=>q,λρ hρ=>by rw[den_one g0,den_flip,hρ];rfl⟩
    . exact⟨λQ _ q=>q,λρ _=>rfl⟩
 have hh:∀h' ,h'=(if h=f then 1 else if h=flip f then 0 else h)->(∀Q:Nat->Prop,Q 0->Q (h/2)->Q (h'/2))/\∀ρ,den G f ρ=false->den G h' ρ=den G h ρ:=by
  rintro _ rfl;split
  . rename_i e;subst e
    exact⟨λQ q _=>q,λρ hρ=>by rw[den_one g0,hρ]⟩
  . split
    . rename_i e;subst e
      exact⟨λQ q _=>q,λρ hρ=>by rw[den_zero g0,den_flip,hρ];rfl⟩
    . exact⟨λQ _ q=>q,λρ _=>rfl⟩
 simp only[];generalize hg':(if g=f then 0 else if g=flip f then 1 else g)=g';generalize hh':(if h=f then 1 else if h=flip f then 0 else h)=h';obtain⟨qg,dg⟩:=hg g' hg'.symm;obtain⟨qh,dh⟩:=hh h' hh'.symm;have key:∀ρ,iteF (den G f) (den G g) (den G h) ρ=iteF (den G f) (den G g') (den G h') ρ:=λρ=>iteF_congr ρ (dg ρ) (dh ρ)
 by_cases c1:f=0\/g'=h'
 . rw[jAb c1]
   refine⟨λQ q0 _ q1 _=>qg Q q0 q1,λρ=>?_⟩;rw[key];rcases c1 with rfl|rfl
   . unfold iteF;rw[den_zero g0];rfl
   . unfold iteF;simp
 rw[jAa c1];by_cases c2:f=1
 . rw[jAb c2]
   refine⟨λQ q0 _ _ q2=>qh Q q0 q2,λρ=>?_⟩;subst c2;rw[key];unfold iteF;rw[den_one g0];rfl
 rw[jAa c2];by_cases c3:g'=0/\h'=1
 . rw[jAb c3]
   refine⟨λQ _ q _ _=>q,λρ=>?_⟩;rw[key,c3.1,c3.2];unfold iteF;rw[den_zero g0,den_one g0];cases den G f ρ <;> rfl
 rw[jAa c3];by_cases c4:g'=1/\h'=0
 . rw[jAb c4]
   refine⟨λQ _ q _ _=>by rw[flip_div];exact q,λρ=>?_⟩;rw[key,c4.1,c4.2,den_flip];unfold iteF;rw[den_zero g0,den_one g0];cases den G f ρ <;> rfl
 rw[jAa c4];have hf2:f/2≠0:=by omega
 have fin:∀a b c:Nat,a/2=f/2->(∀Q:Nat->Prop,Q 0->Q (g/2)->Q (h/2)->Q (b/2)/\Q (c/2))->(∀ρ,iteF (den G f) (den G g') (den G h') ρ=iteF (den G a) (den G b) (den G c) ρ) ->
   (∀Q:Nat->Prop,Q 0->Q (f/2)->Q (g/2)->Q (h/2)->Q (a/2)/\Q (flipIf b (b%2==1)/2)/\Q (flipIf c (b%2==1)/2))/\a/2≠0/\∀ρ,iteF (den G f) (den G g) (den G h) ρ=((b%2==1) ^^ iteF (den G a) (den G (flipIf b (b%2==1))) (den G (flipIf c (b%2==1))) ρ):=λa b c ha hQ hρ=>by
  refine⟨λQ q0 q1 q2 q3=>?_,by rw[ha];exact hf2,λρ=>?_⟩
  . rw[Qx,Qx,ha];exact⟨q1,hQ Q q0 q2 q3⟩
  . rw[key,hρ]
    unfold iteF;rw[Ke,Ke];cases den G a ρ <;> simp
 by_cases hf:f%2=1
 . rw[jAb hf]
   refine fin _ _ _ (flip_div f) (λQ q0 q2 q3=>⟨qh Q q0 q3,qg Q q0 q2⟩) λρ=>?_
   unfold iteF;rw[den_flip];cases den G f ρ <;> rfl
 . rw[jAa hf]
   exact fin _ _ _ rfl (λQ q0 q2 q3=>⟨qg Q q0 q2,qh Q q0 q3⟩) λρ=>rfl
theorem iteN_ok(g0:G 0=none):∀(k:Nat) (t:Bool) (f g h:Nat),(k=0->f/2≠0)->match iteN k t f g h with
  | (u,.inl r)=>(∀Q:Nat->Prop,Q 0->Q (f/2)->Q (g/2)->Q (h/2)->Q (r/2))/\∀ρ,(t ^^ iteF (den G f) (den G g) (den G h) ρ)=(u ^^ den G r ρ)
  | (u,.inr (a,b,c))=>(∀Q:Nat->Prop,Q 0->Q (f/2)->Q (g/2)->Q (h/2)->Q (a/2)/\Q (b/2)/\Q (c/2))/\a/2≠0/\∀ρ,(t ^^ iteF (den G f) (den G g) (den G h) ρ)=(u ^^ iteF (den G a) (den G b) (den G c) ρ)
 | 0,t,f,g,h,hk=>⟨λQ _ q1 q2 q3=>⟨q1,q2,q3⟩,hk rfl,λρ=>rfl⟩
 | k+1,t,f,g,h,_=>by
   have h1:=iteE_ok g0 f g h;unfold iteN
   revert h1
   rcases iteE f g h with r|⟨a,b,c,n⟩
   . exact λh1=>⟨h1.1,λρ=>by rw[h1.2]⟩
   . intro h1
     obtain⟨h1,h2,h3⟩:=h1;simp only[];by_cases hc:a=f/\b=g/\c=h
     . rw[jAb hc]
       obtain⟨rfl,rfl,rfl⟩:=hc;exact⟨λQ _ q1 q2 q3=>⟨q1,q2,q3⟩,h2,λρ=>by
        have:=h3 ρ;cases n with
        | false=>simp
        | true=>simp at this⟩
     . rw[jAa hc]
       have ih:=iteN_ok g0 k (t ^^ n) a b c (λ_=>h2)
       revert ih
       rcases iteN k (t ^^ n) a b c with⟨u,r|⟨a',b',c'⟩⟩
       . rintro⟨i1,i2⟩
         exact⟨λQ q0 q1 q2 q3=>by obtain⟨x,y,z⟩:=h1 Q q0 q1 q2 q3;exact i1 Q q0 x y z,λρ=>by rw[h3,<- i2,Bool.xor_assoc]⟩
       . rintro⟨i1,i2,i3⟩
         exact⟨λQ q0 q1 q2 q3=>by obtain⟨x,y,z⟩:=h1 Q q0 q1 q2 q3;exact i1 Q q0 x y z,i2,λρ=>by rw[h3,<- i3,Bool.xor_assoc]⟩
end
theorem pow_half{n l L:Nat}(hl:l<n)(hL:L<=l):(2^(n-(l+1))-1)+((2^(n-(l+1))-1)+(1+0))<=2^(n-L)-1:=by
 have h1:0<2^(n-(l+1)):=Nat.pow_pos (by decide);have h2:2^(n-l)=2*2^(n-(l+1)):=by rw[show n-l=(n-(l+1))+1 by omega,Nat.pow_succ];omega
 have h3:2^(n-l)<=2^(n-L):=jTa (by decide) (by omega);omega
theorem Mg.ite_ok{S:Sem}(hS1:∀φ ψ χ,S 1 φ ψ χ=iteF φ ψ χ){B:Nat}:∀(k L:Nat) (m:Mg) (f g h:Nat),StOk B m.s->MeOk S m.s.nd m.me->val m.s.nd f->val m.s.nd g->val m.s.nd h ->
  L<=m.s.vars.length->L<=lvE m.s f->L<=lvE m.s g->L<=lvE m.s h->m.s.vars.length<k+L ->
  Runs S B (2^(m.s.vars.length-L)-1) m (m.ite k f g h) (Isf (iteF (den m.s.nd f) (den m.s.nd g) (den m.s.nd h)))
 | 0,L,m,f,g,h,_,_,_,_,_,hL,_,_,_,hk=>by omega
 | k+1,L,m,f,g,h,hok,hme,vf,vg,vh,hL,lf,lg,lh,hk=>by
   have g0:=hok.can.g0;have h1:=iteN_ok g0 3 false f g h (λh=>by cases h);unfold Mg.ite
   revert h1
   rcases iteN 3 false f g h with⟨t,r|⟨a,b,c⟩⟩
   . rintro⟨h1,h2⟩
     refine (Runs.pure hok hme ⟨val_flipIf.2 ?_,funext λρ=>?_⟩).mono (jC _) λ_ _ _ h=>h
     . exact h1 (λi=>i=0\/(m.s.nd i).isSome=true) (.inl rfl) vf vg vh
     . have:=h2 ρ
       rw[Bool.false_xor] at this;rw[Ke,this]
   rintro⟨h1,h2,h3⟩;have hv:=h1 (λi=>i=0\/(m.s.nd i).isSome=true) (.inl rfl) vf vg vh;have hl:=h1 (λi=>∀e,e/2=i->L<=lvE m.s e) (λe he=>by rw[lvE_none (by rw[he];exact g0)];exact hL) (λe he=>by rw[lvE_div he];exact lf) (λe he=>by rw[lvE_div he];exact lg) (λe he=>by rw[lvE_div he];exact lh);obtain⟨va,vb,vc⟩:=hv;obtain⟨la,lb,lc⟩:=hl;have la:=la a rfl;have lb:=lb b rfl;have lc:=lc c rfl;have va:val m.s.nd a:=va;have vb:val m.s.nd b:=vb;have vc:val m.s.nd c:=vc;simp only[];cases hget:m.me.get 1 a b c with
   | some r =>
     obtain⟨e1,e2⟩:=hme.get hget;rw[hS1] at e2;refine (Runs.pure hok hme ⟨val_flipIf.2 e1,funext λρ=>?_⟩).mono (jC _) λ_ _ _ h=>h
     have:=h3 ρ;rw[Bool.false_xor] at this;rw[Ke,e2,this]
   | none =>
     have hsa:(m.s.nd (a/2)).isSome=true:=va.resolve_left h2;obtain⟨v,hvn,hve,hvl,_⟩:=hok.topE (l:=[a,b,c]) ⟨a,.head _,hsa⟩;have hlL:L<=lvf m.s v:=by
      obtain⟨v',hvn',hve',_,e,he,n',hn',hv'⟩:=hok.topE (l:=[a,b,c]) ⟨a,.head _,hsa⟩
      have:v'=v:=by rw[hve] at hve';omega
      subst this;have hlv:lvE m.s e=lvf m.s v':=by rw[lvE_some hn',hv']
      rw[<- hlv];simp only[jBa,jCa,jJb] at he;rcases he with rfl|rfl|rfl
      . exact la
      . exact lb
      . exact lc
     have hlv:=(hok.pm.lv v hvn).1;have sa:=hok.splitI va hvn (hvl a (by simp));have sb:=hok.splitI vb hvn (hvl b (by simp));have sc:=hok.splitI vc hvn (hvl c (by simp));simp only[hve];have sa0:=sa false;have sa1:=sa true
     have sb0:=sb false;have sb1:=sb true
     have sc0:=sc false;have sc1:=sc true
     simp only[jFa,jOb,jEb] at sa0 sa1 sb0 sb1 sc0 sc1;generalize (m.s.splitI a v).1=a0 at *
     generalize (m.s.splitI a v).2=a1 at *
     generalize (m.s.splitI b v).1=b0 at *
     generalize (m.s.splitI b v).2=b1 at *
     generalize (m.s.splitI c v).1=c0 at *
     generalize (m.s.splitI c v).2=c1 at *
     have hr:=Mg.ite_ok hS1 (B:=B) k (lvf m.s v+1) m a0 b0 c0 hok hme sa0.1 sb0.1 sc0.1 hlv sa0.2.2 sb0.2.2 sc0.2.2 (by omega);refine ((hr.then (L:=(2^(m.s.vars.length-(lvf m.s v+1))-1)+(1+0)) (R':=Isf (iteF (den m.s.nd f) (den m.s.nd g) (den m.s.nd h))) (λm' e _ hb=>hb.elim) λm1 lo g1 _ r1=>?_)).mono (pow_half hlv hlL) λ_ _ _ h=>h
     obtain⟨vlo,dlo⟩:=r1;have n1:m1.s.vars.length=m.s.vars.length:=by rw[g1.gro.vars]
     have lvm:lvf m1.s=lvf m.s:=by unfold lvf;rw[g1.gro.lev]
     have g01:=g1.ok.can.g0;have hr2:=Mg.ite_ok hS1 (B:=B) k (lvf m.s v+1) m1 a1 b1 c1 g1.ok g1.me (g1.gro.val sa1.1) (g1.gro.val sb1.1) (g1.gro.val sc1.1) (by rw[n1];exact hlv)
      (by rw[lvE_gro g1.gro sa1.1 g01];exact sa1.2.2) (by rw[lvE_gro g1.gro sb1.1 g01];exact sb1.2.2) (by rw[lvE_gro g1.gro sc1.1 g01];exact sc1.2.2) (by rw[n1];omega)
     rw[n1] at hr2;refine hr2.then (L:=1+0) (λm' e _ hb=>hb.elim) λm2 hi g2 _ r2=>?_
     obtain⟨vhi,dhi⟩:=r2;have n2:m2.s.vars.length=m.s.vars.length:=by rw[g2.gro.vars,n1]
     have lvm2:lvf m2.s=lvf m.s:=by unfold lvf;rw[g2.gro.lev,g1.gro.lev]
     rw[g1.gro.dens _ sa1.1,g1.gro.dens _ sb1.1,g1.gro.dens _ sc1.1] at dhi;have ind:∀(e:Nat) x,val m.s.nd e->lvf m.s v<lvE m.s e->x<m.s.vars.length->lvf m.s x<=lvf m.s v->Indep (den m.s.nd e) x:=λe x he hl hx hxl=>hok.indepE he hx (by omega)
     have indF:∀{φ ψ χ:Fn} {x:Nat},Indep φ x->Indep ψ x->Indep χ x->Indep (iteF φ ψ χ) x:=λi j l ρ b=>by unfold iteF;rw[i,j,l]
     have dlo2:den m2.s.nd lo=iteF (den m.s.nd a0) (den m.s.nd b0) (den m.s.nd c0):=by rw[g2.gro.dens _ vlo,dlo]
     have hmk:=Mg.mk_ok (S:=S) g2.ok g2.me (v:=v) (lo:=lo) (hi:=hi) (by rw[n2];exact hvn) (g2.gro.val vlo) vhi
      (λx hx hxl=>by
        rw[n2] at hx;rw[lvm2] at hxl;rw[dlo2];exact indF (ind _ x sa0.1 sa0.2.2 hx hxl) (ind _ x sb0.1 sb0.2.2 hx hxl) (ind _ x sc0.1 sc0.2.2 hx hxl))
      (λx hx hxl=>by
        rw[n2] at hx;rw[lvm2] at hxl;rw[dhi];exact indF (ind _ x sa1.1 sa1.2.2 hx hxl) (ind _ x sb1.1 sb1.2.2 hx hxl) (ind _ x sc1.1 sc1.2.2 hx hxl))
     refine hmk.then (L:=0) (λm' e _ hb=>hb.elim) λm3 r g3 _ r3=>?_
     obtain⟨vr,dr⟩:=r3;have gg:Gro (λ_=>True) m.s m3.s:=(g1.gro.trans g2.gro).trans g3.gro;rw[dlo2,dhi,sa0.2.1,sb0.2.1,sc0.2.1,sa1.2.1,sb1.2.1,sc1.2.1] at dr;have dr':den m3.s.nd r=iteF (den m.s.nd a) (den m.s.nd b) (den m.s.nd c):=by
      rw[dr];funext ρ
      unfold ite3 iteF;cases hb:ρ v with
      | true=>simp only[jEb];have:=upd_same ρ v;rw[hb] at this;rw[this]
      | false=>simp only[jFa,jOb];have:=upd_same ρ v;rw[hb] at this;rw[this]
     have hput:=g3.me.put (op:=1) (gg.val va) (gg.val vb) (gg.val vc) vr (by rw[hS1,gg.dens _ va,gg.dens _ vb,gg.dens _ vc,dr']);refine⟨{ m3 with me:=m3.me.put 1 a b c r },_,rfl,⟨g3.ok,hput,Gro.refl _ _,jBb _,rfl,rfl,rfl⟩,rfl,val_flipIf.2 vr,funext λρ=>?_⟩
     have:=h3 ρ;rw[Bool.false_xor] at this;rw[Ke,dr',this]
end G
namespace G
def cntH(hs:List (Int×Nat))(i:Nat):Int:=((hs.filter λp=>p.2/2==i).length:Nat)
theorem cntH_le(hs:List (Int×Nat))(i:Nat):cntH hs i<=(hs.length:Nat):=by
 unfold cntH
 have:=kG (λp:Int×Nat=>p.2/2==i) hs;omega
theorem cntH_pos{hs:List (Int×Nat)}{p:Int×Nat}(hp:p∈hs):0<cntH hs (p.2/2):=by
 unfold cntH
 have:p∈hs.filter λq=>q.2/2==p.2/2:=jQ.2 ⟨hp,by simp⟩
 have:=kQ this;omega
theorem cntH_ex{hs:List (Int×Nat)}{i:Nat}(h:0<cntH hs i):∃p∈hs,p.2/2=i:=by
 unfold cntH at h;obtain⟨p,hp⟩:=List.exists_mem_of_length_pos (l:=hs.filter λp=>p.2/2==i) (by omega);obtain⟨h1,h2⟩:=jQ.1 hp;exact⟨p,h1,by simpa using h2⟩
def EvOk(n:Nat)(ev:Ev):Prop:=ev.kind=1\/(ev.kind=2/\0<=ev.level/\ev.level+1<n)\/ev.kind=3
structure Snd (S:Sem) (n c:Nat) (m:Mg):Prop where
 ok:StOk m.hs.length m.s
 me:MeOk S m.s.nd m.me
 vars:m.s.vars.length=n
 keys:∀p∈m.hs,0<=p.1/\p.1<m.next/\val m.s.nd p.2
 nodup:(m.hs.map (·.1)).Nodup
 refs:∀i,i≠0->Qg m.s.nd i=cntH m.hs i
 c0:m.of 0=some 1
 c1:m.of 1=some 0
 ev:∀e∈m.waits,EvOk n e
 next:2<=m.next/\m.next<=c
def Mg.fn(m:Mg)(h:Int):Option Fn:=(m.of h).map (den m.s.nd)
theorem of_mem{m:Mg}{h:Int}{f:Nat}(he:m.of h=some f):(h,f)∈m.hs:=by
 unfold Mg.of at he;cases hf:m.hs.find? (λp=>p.1==h) with
 | none=>rw[hf] at he;cases he
 | some p =>
   rw[hf] at he;injection he with he
   have h1:=kTa hf;have h2:=List.find?_some hf;simp at h2
   obtain⟨a,b⟩:=p;subst he;subst h2;exact h1
theorem of_val{S:Sem}{n c:Nat}{m:Mg}(h:Snd S n c m){k:Int}{f:Nat}(he:m.of k=some f):val m.s.nd f:=(h.keys _ (of_mem he)).2.2
theorem of_hs{m m':Mg}(h:m'.hs=m.hs)(k:Int):m'.of k=m.of k:=by unfold Mg.of;rw[h]
theorem map_on{α β:Type}{o:Option α}{f g:α->β}(h:∀a,o=some a->f a=g a):o.map f=o.map g:=by
 cases o with
 | none=>rfl
 | some a=>exact jNa some (h a rfl)
theorem fn_of{m m':Mg}(h:m'.hs=m.hs)(hd:∀k f,(k,f)∈m.hs->den m'.s.nd f=den m.s.nd f):m'.fn=m.fn:=by
 funext k
 have h1:m'.fn k=(m.of k).map (den m'.s.nd):=by rw[<- of_hs h];rfl
 rw[h1];exact map_on λf he=>hd k f (of_mem he)
theorem StOk.rebound{B B':Nat}{s:St}(h:StOk B s)(hb:∀i,i≠0->Qg s.nd i<=(B':Int)):StOk B' s :=
 ⟨h.pm,h.pl,h.can,h.vars,h.ord,h.tab,h.cl,h.clen,h.rc,λid n hn=>by
   have h0:id≠0:=by rintro rfl;rw[h.can.g0] at hn;cases hn
   have:=hb id h0;unfold Qg at this;rw[hn] at this
   have:(n.refs:Int)<=B':=this;omega⟩
theorem Snd.grew{S:Sem}{n c K:Nat}{m m':Mg}(h:Snd S n c m)(g:Grew S m.hs.length K m m')(hw:∀e∈m'.waits,e∈m.waits):Snd S n c m'/\m'.fn=m.fn :=
 ⟨⟨by rw[g.hs];exact g.ok,g.me,by rw[g.gro.vars];exact h.vars,λp hp=>by rw[g.hs] at hp;rw[g.next];obtain⟨h1,h2,h3⟩:=h.keys p hp;exact⟨h1,h2,g.gro.val h3⟩,by rw[g.hs];exact h.nodup,
   λi hi=>by rw[g.gro.refs,g.hs];exact h.refs i hi,by rw[of_hs g.hs];exact h.c0,by rw[of_hs g.hs];exact h.c1,λe he=>h.ev e (hw e he),by rw[g.next];exact h.next⟩,
  fn_of g.hs λk f hp=>g.gro.dens _ (h.keys _ hp).2.2⟩
structure Stay (m m':Mg):Prop where
 hs:m'.hs=m.hs
 next:m'.next=m.next
 waits:m'.waits=m.waits
 calls:m'.calls=m.calls
 room:m'.s.pl.room=m.s.pl.room
 fn:m'.fn=m.fn
 fresh:m'.fresh=m.fresh
theorem Stay.trans{m m' m'':Mg}(h:Stay m m')(k:Stay m' m''):Stay m m'':=⟨k.hs.trans h.hs,k.next.trans h.next,k.waits.trans h.waits,k.calls.trans h.calls,k.room.trans h.room,k.fn.trans h.fn,k.fresh.trans h.fresh⟩
theorem Stay.refl(m:Mg):Stay m m:=⟨rfl,rfl,rfl,rfl,rfl,rfl,rfl⟩
theorem Snd.stay{S:Sem}{n c:Nat}{m:Mg}(h:Snd S n c m){s:St}(ok:StOk m.hs.length s)(hv:s.vars.length=m.s.vars.length)(hroom:s.pl.room=m.s.pl.room)(hr:∀i,i≠0->Qg s.nd i=Qg m.s.nd i)
  (hd:∀e,val m.s.nd e->val s.nd e->∀ρ,den s.nd e ρ=den m.s.nd e ρ):Snd S n c { m with s:=s,me:=Memo.none }/\Stay m { m with s:=s,me:=Memo.none }:=by
 have hval:∀p∈m.hs,val s.nd p.2:=λp hp=>by
  by_cases h0:p.2/2=0
  . exact .inl h0
  . have h1:=h.refs _ h0
    have h2:=cntH_pos hp;rw[<- h1,<- hr _ h0] at h2;refine .inr ?_;unfold Qg at h2;cases hn:s.nd (p.2/2) with
    | none=>rw[hn] at h2;exact absurd h2 (by decide)
    | some k=>rfl
 refine⟨⟨ok,MeOk.none _ _,hv.trans h.vars,λp hp=>⟨(h.keys p hp).1,(h.keys p hp).2.1,hval p hp⟩,h.nodup,λi hi=>(hr i hi).trans (h.refs i hi),h.c0,h.c1,h.ev,h.next⟩,rfl,rfl,rfl,rfl,hroom,fn_of rfl (λk f hp=>funext (hd _ (h.keys _ hp).2.2 (hval _ hp))),rfl⟩
theorem Coll.refs{B:Nat}{s s':St}(h:StOk B s)(c:Coll B s s')(i:Nat):Qg s'.nd i=Qg s.nd i:=by
 have hnd:=c.nd;unfold Qg;rw[hnd];simp only[];by_cases hc:Qv s i=0
 . rw[jAb hc]
   cases hn:s.nd i with
   | none=>rfl
   | some n =>
     show (0:Int)=n.refs
     by_cases hpos:n.refs=0
     . rw[hpos];rfl
     . have:=(h.live_iff hn).2 ⟨i,by unfold Qg;rw[hn];show (0:Int)<n.refs;omega,.here hn⟩
       omega
 . rw[jAa hc]
theorem Coll.vald{B:Nat}{s s':St}(c:Coll B s s'):∀e,val s.nd e->val s'.nd e->∀ρ,G.den s'.nd e ρ=G.den s.nd e ρ:=λe _ h2=>c.den e h2
theorem Snd.collect{S:Sem}{n c:Nat}{m:Mg}(h:Snd S n c m):∃m' k,m.collect=some (m',k)/\Snd S n c m'/\Stay m m'/\m'.s.dead=0/\m'.s.vars=m.s.vars/\m'.me=Memo.none:=by
 obtain⟨s',r,cl⟩:=h.ok.collect;obtain⟨h1,h2⟩:=h.stay cl.ok (by rw[cl.vars]) cl.room (λi _=>cl.refs h.ok i) cl.vald;refine⟨_,m.s.dead,?_,h1,h2,cl.dead,cl.vars,rfl⟩;unfold Mg.collect;rw[r];rfl
theorem Snd.swap{S:Sem}{n c:Nat}{m:Mg}(h:Snd S n c m)(hb:m.hs.length<1152921504606846976){k:Nat}(hk:k+1<n):∃s' e,m.s.swap k=some (s',e)/\Snd S n c { m with s:=s',me:=Memo.none }/\Stay m { m with s:=s',me:=Memo.none }/\s'.dead=0 /\
  ((e=7/\s'.vars=m.s.vars/\m.s.pl.room<3*many s'.pl.slots)\/(e=0/\s'.vars=(m.s.vars.set k (m.s.vars.getD (k+1) 0)).set (k+1) (m.s.vars.getD k 0))):=by
 obtain⟨s0,cl,hsw⟩:=h.ok.swap hb (k:=k) (by rw[h.vars];exact hk);obtain⟨h1,h2⟩:=h.stay cl.ok (by rw[cl.vars]) cl.room (λi _=>cl.refs h.ok i) cl.vald;rcases hsw with⟨r,hr⟩|⟨s2,r,sw⟩
 . exact⟨s0,7,r,h1,h2,cl.dead,.inl ⟨rfl,cl.vars,by rw[cl.room] at hr;exact hr⟩⟩
 . have hv:s2.vars=(m.s.vars.set k (m.s.vars.getD (k+1) 0)).set (k+1) (m.s.vars.getD k 0):=by rw[sw.vars];unfold St.flipLev;simp only[cl.vars]
   have:=h1.stay (s:=s2) sw.ok (by rw[hv];simp[cl.vars]) sw.room (λi _=>sw.refs i) sw.dens;exact⟨s2,0,r,this.1,h2.trans this.2,sw.dead,.inr ⟨rfl,hv⟩⟩
theorem swap_bad{s:St}{level:Int}(h:level<0\/level≥(s.vars.length:Int)-1):s.swap level=some (s,2):=by unfold St.swap;rw[jAb h]
theorem Snd.swaps{S:Sem}{n c:Nat}:∀(l:List Nat) {m:Mg},Snd S n c m->m.hs.length<1152921504606846976->(∀k∈l,k+1<n)->∃s',m.s.swaps l=some s'/\Snd S n c { m with s:=s',me:=Memo.none }/\Stay m { m with s:=s',me:=Memo.none }
 | [],m,h,_,_=>⟨m.s,rfl,h.stay h.ok rfl rfl (λ_ _=>rfl) λ_ _ _ _=>rfl⟩
 | k::l,m,h,hb,hk=>by
   obtain⟨s1,e,h1,h2,h3,_⟩:=h.swap hb (hk k (.head _));obtain⟨s2,h4,h5,h6⟩:=Snd.swaps l h2 hb λx hx=>hk x (.tail _ hx)
   refine⟨s2,?_,h5,h3.trans h6⟩;unfold St.swaps;rw[h1];exact h4
theorem downTo_lt{i n k:Nat}(h:k∈downTo i n):k+1<=i+n:=by
 unfold downTo at h;obtain⟨x,hx,rfl⟩:=jF.1 h
 have:=jVb.1 hx;omega
theorem steps_lt:∀(b:List Nat) (i:Nat) (now:List Nat),i+b.length<=now.length->(∀v∈b,v∈now)->∀k∈stepsP i b now,k+1<now.length
 | [],i,now,_,_,k,hk=>by unfold stepsP at hk;cases hk
 | v::b,i,now,hi,hb,k,hk=>by
   unfold stepsP at hk;simp only[yB] at hi;have hv:now.idxOf v<now.length:=List.idxOf_lt_length_of_mem (hb v (.head _));have hl:(now.eraseIdx (now.idxOf v)).length=now.length-1:=kEa hv;have hlen:((now.eraseIdx (now.idxOf v)).insertIdx i v).length=now.length:=by
    rw[kSb (by omega),hl];omega
   rcases jH.1 hk with hk|hk
   . have h1:=downTo_lt hk
     by_cases h4:now.idxOf v<=i
     . rw[show now.idxOf v-i=0 by omega] at hk
       cases hk
     . omega
   . have:=steps_lt b (i+1) _ (by rw[hlen];omega) (λx hx=>?_) k hk
     . rwa [hlen] at this
     . rw[List.mem_insertIdx (by omega)]
       by_cases hxv:x=v
       . exact .inl hxv
       . refine .inr (List.mem_eraseIdx_iff_getElem?.2 ?_)
         obtain⟨j,hj,e⟩:=qA (hb x (.tail _ hx));refine⟨j,?_,by rw[yA hj,e]⟩;rintro rfl;exact hxv (by rw[<- e];exact List.getElem_idxOf hv)
theorem Snd.happen{S:Sem}{n c:Nat}{m:Mg}(h:Snd S n c m)(hb:m.hs.length<1152921504606846976){ev:Ev}(he:EvOk n ev):∃m',m.happen ev=some m'/\Snd S n c m'/\Stay m m':=by
 unfold Mg.happen;rcases he with h1|⟨h1,h2,h3⟩|h1
 . rw[jAb h1]
   obtain⟨m',k,r,h2,h3,_⟩:=h.collect;refine⟨m',?_,h2,h3⟩;unfold Mg.collect at r;cases hc:m.s.collect with
   | none=>rw[hc] at r;cases r
   | some q=>rw[hc] at r;simp only[Option.map_some,jEa,jIa] at r ⊢;exact r.1
 . rw[jAa (by omega),jAb h1]
   obtain⟨j,hj⟩:∃j:Nat,ev.level=(j:Int):=⟨ev.level.toNat,by omega⟩;rw[hj];obtain⟨s',e,r,h4,h5,_⟩:=h.swap hb (k:=j) (by omega);rw[r];exact⟨_,rfl,h4,h5⟩
 . rw[jAa (by omega),jAa (by omega)]
   obtain⟨s',r,h4,h5⟩:=Snd.swaps (stepsP 0 m.s.vars.reverse m.s.vars) h hb (λk hk=>by
    have:=steps_lt m.s.vars.reverse 0 m.s.vars (by simp) (λv hv=>List.mem_reverse.1 hv) k hk
    rwa [h.vars] at this)
   rw[r];exact⟨_,rfl,h4,h5⟩
theorem below_all{n:Nat}{s:St}{B:Nat}(h:StOk B s)(hn:s.vars.length=n):∀(l:List (Int×Nat)),∃L:List Tb,L.Nodup/\(∀y,y∈L↔∃p∈l,Sr s.vars (s.tb p.2) y)/\L.length<=l.length*2^(n+1)
 | []=>⟨[],.nil,by simp,by simp⟩
 | p::l=>by
   obtain⟨L,h1,h2,h3⟩:=below_all h hn l;have ho:=h.pm.ordr;have hx:IsT s.vars.length (s.tb p.2):=isT_tb s p.2;have hL:∀y∈L,IsT s.vars.length y:=λy hy=>by
    obtain⟨q,_,hq⟩:=(h2 y).1 hy;exact (Sr.lift ho hq (isT_tb s q.2)).1
   have hc:Clo s.vars.length s.vars (rkT s.vars (s.tb p.2)) L:=λy hy _ z hz=>by
    obtain⟨q,hq,hs⟩:=(h2 y).1 hy;exact (h2 z).2 ⟨q,hq,Sr.trans ho hs (isT_tb s q.2) hz⟩
   obtain⟨k1,k2,_⟩:=belowT_ok ho (n+1) (s.tb p.2) L hx hL h1 hc (by omega);refine⟨belowT (n+1) s.vars (s.tb p.2) L,k1,λy=>?_,?_⟩
   . rw[k2,h2]
     constructor
     . rintro (⟨q,hq,hs⟩|hs)
       . exact⟨q,.tail _ hq,hs⟩
       . exact⟨p,.head _,hs⟩
     . rintro⟨q,hq,hs⟩
       rcases jBa.1 hq with rfl|hq
       . exact .inr hs
       . exact .inl ⟨q,hq,hs⟩
   . have:=belowT_len (n+1) s.vars (s.tb p.2) L
     rw[yB,kPb];omega
theorem Snd.live{S:Sem}{n c:Nat}{m:Mg}(h:Snd S n c m):many m.s.pl.slots<=m.hs.length*2^(n+1)+m.s.dead:=by
 obtain⟨L,h1,h2,h3⟩:=below_all h.ok h.vars m.hs
 have:=h.ok.live_eq h1 λy=>?_
 . omega
 . rw[h2]
   constructor
   . rintro⟨p,hp,hs⟩
     have hv:=(h.keys p hp).2.2;obtain⟨j,hr,hy⟩:=(h.ok.sr_iff hv y).1 hs;refine⟨p.2/2,j,?_,hr,hy⟩;obtain⟨⟨k,hk⟩,_⟩:=hr.some;have h0:p.2/2≠0:=by intro e;rw[e,h.ok.can.g0] at hk;cases hk
     rw[h.refs _ h0];exact cntH_pos hp
   . rintro⟨i,j,hi,hr,hy⟩
     obtain⟨⟨k,hk⟩,_⟩:=hr.some;have h0:i≠0:=by rintro rfl;rw[h.ok.can.g0] at hk;cases hk
     rw[h.refs _ h0] at hi;obtain⟨p,hp,rfl⟩:=cntH_ex hi;exact⟨p,hp,(h.ok.sr_iff (h.keys p hp).2.2 y).2 ⟨j,hr,hy⟩⟩
theorem Snd.run{α:Type}{S:Sem}{n c K:Nat}{Φ:Int->Option Fn}{H:List (Int×Nat)}{F:Mg->Step α}{R:Mg->α ⊕ Nat->Prop}(hb:H.length<1152921504606846976)
  (hF:∀m,Snd S n c m->m.fn=Φ->m.hs=H->Runs S H.length K m (F m) R):∀(k:Nat) (room:Bool) (m:Mg),Snd S n c m->m.fn=Φ->m.hs=H->(room=true->many m.s.pl.slots+K<=m.s.pl.room) ->
  H.length*2^(n+1)+K<=m.s.pl.room->2*m.waits.length+(if room=true then 0 else 1)<k->∃m' x,Mg.run F k room m=some (m',x)/\R m' x/\Snd S n c m'/\m'.fn=Φ/\m'.hs=H/\m'.next=m.next/\m'.s.pl.room=m.s.pl.room/\m'.fresh=m.fresh/\∃l,m.waits=l++m'.waits
 | 0,room,m,_,_,_,_,_,hk=>by omega
 | k+1,room,m,h,hf,hh,hr,hroom,hk=>by
   obtain⟨m',r,e1,g,e2⟩:=hF m h hf hh;unfold Mg.run;rw[e1];rw[<- hh] at g;cases r with
   | ok a =>
     obtain⟨h1,h2⟩:=h.grew g (λe he=>by rw[e2.1] at he;exact he);exact⟨m',.inl a,rfl,e2.2,h1,h2.trans hf,g.hs.trans hh,g.next,g.gro.room,g.fresh,[],by rw[e2.1];rfl⟩
   | stop s=>cases s with
     | event ev =>
       have e2:m.waits=ev::m'.waits:=e2;obtain⟨h1,h2⟩:=h.grew g (λe he=>by rw[e2];exact .tail _ he);obtain⟨m2,r2,h3,h4⟩:=h1.happen (by rw[g.hs,hh];exact hb) (h.ev ev (by rw[e2];exact .head _));simp only[r2,Option.bind_some];obtain⟨m3,x,q1,q2,q3,q4,q5,q6,q7,q9,l,q8⟩:=Snd.run hb hF k false m2 h3 ((h4.fn.trans h2).trans hf) ((h4.hs.trans g.hs).trans hh) (λh=>by cases h) (by rw[h4.room,g.gro.room];exact hroom) (by
        rw[h4.waits];rw[e2,yB] at hk;simp only[jFa,jOb];omega)
       refine⟨m3,x,q1,q2,q3,q4,q5,by rw[q6,h4.next,g.next],by rw[q7,h4.room,g.gro.room],by rw[q9,h4.fresh,g.fresh],ev::l,?_⟩;rw[e2,<- h4.waits,q8];rfl
     | err e =>
       obtain⟨h1,h2⟩:=h.grew g (λe he=>by rw[e2.1] at he;exact he);rcases e2 with⟨e3,⟨rfl,e4⟩|⟨e4,e5⟩⟩
       . cases room with
         | true=>have:=hr rfl;omega
         | false =>
           obtain⟨m2,j,r2,h3,h4,h5,_⟩:=h1.collect;have hlive:=h3.live;rw[h5,h4.hs,g.hs,hh] at hlive;simp only[r2,Option.bind_some,and_self,jEb];obtain⟨m3,x,q1,q2,q3,q4,q5,q6,q7,q9,l,q8⟩:=Snd.run hb hF k true m2 h3 ((h4.fn.trans h2).trans hf) ((h4.hs.trans g.hs).trans hh) (λ_=>by rw[h4.room,g.gro.room];omega) (by rw[h4.room,g.gro.room];exact hroom) (by
            rw[h4.waits,e3];simp only[jFa,jOb] at hk;simp only[jEb];omega)
           refine⟨m3,x,q1,q2,q3,q4,q5,by rw[q6,h4.next,g.next],by rw[q7,h4.room,g.gro.room],by rw[q9,h4.fresh,g.fresh],l,?_⟩;rw[<- e3,<- h4.waits,q8]
       . refine⟨m',.inr e,?_,e5,h1,h2.trans hf,g.hs.trans hh,g.next,g.gro.room,g.fresh,[],by rw[e3];rfl⟩
         simp only[e4,false_and,jOb]
end G
section
open Go.RowKit
def IntR(I:PH)(v:Value)(l:List Int):Prop:=(∃A c,v=.slice A l.length c)/\(0<l.length->∃X c,v=.slice (some ⟨X,0,none⟩) l.length c/\∀(i:Nat) x,l[i]?=some x->I.at X i=some (.int .i64 x))
theorem IntR.le{I J:PH}{v:Value}{l:List Int}(h:IntR I v l)(hJ:I.le J):IntR J v l:=⟨h.1,λhl=>by
 obtain⟨X,c,h1,h2⟩:=h.2 hl;exact⟨X,c,h1,λi x hx=>PH.at_le hJ (h2 i x hx)⟩⟩
theorem HsR.del{l:List (Rw Int)}{hs:List (Int×Nat)}(h:HsR l hs)(x:Int):HsR (delR l x) (hs.filter λp=>p.1 != x):=by
 unfold HsR at h ⊢;unfold delR
 induction l generalizing hs with
 | nil =>
   cases hs with
   | nil=>rfl
   | cons p hs=>cases h
 | cons r l ih =>
   cases hs with
   | nil=>cases h
   | cons p hs =>
     simp only[jDb,qAb,jIa] at h;obtain⟨⟨h1,h2⟩,h3⟩:=h;have ih:=ih h3;by_cases e:r.k=x
     . rw[kD (by simpa using e),kD (by simp[<- h1,e])]
       exact ih
     . rw[kCb (by simpa using e),kCb (by simpa[<- h1] using e),jDb,jDb,ih,h1,h2]
theorem drop_cons(m:G.Mg)(h:Int)(l:List Int):m.drop (h::l)=match m.of h with
 | none=>some (m,8)
 | some f=>if 1<h then (m.s.drop f).bind λ(s,_)=>G.Mg.drop { m with s:=s,hs:=m.hs.filter λp=>p.1 != h } l else G.Mg.drop m l:=rfl
theorem mdrop_any{E w:World}{I p:PH}{ms:List PH}{D:Nat}{m m':G.Mg}{l:List Int}{vl:Value}{er:Nat}(hl:IntR I vl l)(hlen:l.length<=1000000)(hb:∀q∈m.hs,q.2<4611686018427387904)(hm:m.drop l=some (m',er))(hA:MgAt D m p)(hS:Sat E I (p::ms) w) :
  Calls Tryz.prog 65 #[vPt D,vl] w λe w'=>e=.returned (nv er)/\∃p',MgAt D m' p'/\Sat E I (p'::ms) w':=by
 obtain⟨⟨A,c,rfl⟩,hlb⟩:=hl;have HB:=yH hlb;have HH:=yH hb;have HM:=yH hm;have HA:=yH hA;clear hlb hb hm hA;generalize hN:l.length=N at *
 have HLn:=yH hN;clear hN;go_enter Tryz.func65,Tryz.ntmps65;go_wp2_with fail
 go_loopw [13] (λv13 wr=>∃(i:Nat) (m1:G.Mg) (p1:PH),i<=N/\v13=.int .i64 (i:Int)/\(∀q∈m1.hs,q.2<4611686018427387904)/\m1.drop (l.drop i)=some (m',er)/\MgAt D m1 p1/\Sat E I (p1::ms) wr) (λv13 _=>(N-intOf v13).toNat)
 case atStart=>exact⟨0,m,p,jC _,rfl,HH.out,HM.out,HA.out,hS⟩
 case round =>
  clear hS HH HM HA;obtain⟨i,m1,p1,hi,rfl,hb,hm,hA,hS⟩:=hrel;by_cases hlt:i<N
  . obtain⟨x,hx⟩:∃x,l[i]?=some x:=⟨_,yA (by rw[HLn.out];exact hlt)⟩
    obtain⟨Y,c',hY,hcell⟩:=HB.out (by omega);injection hY with hA1 hB1 hC1
    subst hA1 hC1;have hcell:=hcell i _ hx;have hdr:l.drop i=x::l.drop (i+1):=by
     rw[jL (by rw[HLn.out];exact hlt)];congr 1
     have:=yA (l:=l) (i:=i) (by rw[HLn.out];exact hlt);rw[hx] at this;injection this with this
     exact this.symm
    rw[hdr,drop_cons] at hm;have hiN:(i:Int)<(N:Int):=by omega
    have hfit:=hA.fit;obtain⟨S,M,H,wv,mS,mM,mH,mW,hSt,hMe,⟨lr,clock,rfl,hok,hr⟩,hW,hS⟩:=hA.open_ hS;have hq:=hr.get x;have ho:m1.of x=(m1.hs.find? λp=>p.1==x).map (·.2):=rfl;rw[<- ho] at hq;have fin:∀(s':G.St) (hs':List (Int×Nat)) (lr':List (Rw Int)) (mS':PH) (w':World),StAt S s' mS'->MapOk lr' clock->HsR lr' hs'->Sat E I (PH.one D (.cells (Xe S M H (m1.next:Int) wv m1.calls) 117)::mS'::mM::PH.one H (Qj ikey lr' clock)::mW::ms) w'->∃p',MgAt D { m1 with s:=s',hs:=hs' } p'/\Sat E I (p'::ms) w':=λs' hs' lr' mS' w' a b c d=>MgAt.close (m:={ m1 with s:=s',hs:=hs' }) hfit a hMe ⟨lr',clock,rfl,b,c⟩ hW d
    have HF:=yH fin;have Hq:=yH hq;have HSt:=yH hSt;have Hok:=yH hok;have Hr:=yH hr;clear fin hq hSt hok hr ho hMe hW hfit hA hdr hx;unfold Xe at hS HF;cases hk:m1.of x with
    | none =>
      rw[hk] at hm Hq;cases hm;clear hk hb;go_wp2_with (first|((with_reducible refine Kb ?_);refine lk2 (x:=x) hS (.inr (.tail _ (.tail _ (.tail _ (.head _))))) (PH.one_self _ _) kI Tryz.underlying115 Zk rfl rfl rfl rfl Hq.out ?_;simp only[Option.map_none,Option.getD_none,Option.isSome_none];refine aM ?_)|(refine aL ?_))
      go_ret;exact⟨rfl,HF.out _ _ _ _ _ HSt.out Hok.out Hr.out hS⟩
    | some f =>
      rw[hk] at hm Hq;have hf:=hb _ (G.of_mem hk);simp only at hf hm;by_cases h1:1<x
      . rw[jAb h1] at hm
        cases hd:m1.s.drop (f:Int) with
        | none=>rw[hd] at hm;cases hm
        | some y =>
          obtain⟨s',e'⟩:=y;rw[hd] at hm;simp only[zK] at hm;have HD:=yH (λ(w:World) (ms':List PH) (h:Sat E I (mS::ms') w)=>sdrop_any hd (by omega) HSt.out h);have HM:=yH hm;have hb':∀q∈m1.hs.filter (λp=>p.1 != x),q.2<4611686018427387904:=λq hq=>hb q (jQ.1 hq).1
          have HB':=yH hb';clear hk hb hd hm hb';go_wp2_with (first|((with_reducible refine Kb ?_);refine lk2 (x:=x) hS (.inr (.tail _ (.tail _ (.tail _ (.head _))))) (PH.one_self _ _) kI Tryz.underlying115 Zk rfl rfl rfl rfl Hq.out ?_;simp only[Option.map_some,zJ,Option.isSome_some];refine aM ?_)|(go_at_call 109;(with_reducible refine yI (HD.out _ _ (hS.pick 1 rfl)) ?_);clear hS;rintro e w ⟨rfl,mS',hSt',hS⟩;have HSt':=yH hSt';clear hSt';replace hS:=Sat.back (m:=mS) 1 rfl hS;simp only[zF,zG] at hS)|((with_reducible refine isDelete ?_);refine dl (x:=x) hS 3 rfl kI Tryz.underlying115 rfl rfl rfl rfl Hok.out ?_;clear hS;intro w hS;simp only[zF,zG] at hS;(try simp only[Act.put]))|(refine aL ?_))
          obtain⟨p2,hA2,hS2⟩:=HF.out _ _ _ _ _ HSt'.out Hok.out.del (Hr.out.del x) hS;exact⟨⟨i+1,_,p2,by omega,by go_num,HB'.out,HM.out,hA2,hS2⟩,by simp[intOf];omega⟩
      . rw[jAa h1] at hm
        have HM:=yH hm;have HB':=yH hb;clear hk hb hm;go_wp2_with (first|((with_reducible refine Kb ?_);refine lk2 (x:=x) hS (.inr (.tail _ (.tail _ (.tail _ (.head _))))) (PH.one_self _ _) kI Tryz.underlying115 Zk rfl rfl rfl rfl Hq.out ?_;simp only[Option.map_some,zJ,Option.isSome_some];refine aM ?_)|(refine aL ?_))
        obtain⟨p2,hA2,hS2⟩:=HF.out _ _ _ _ _ HSt.out Hok.out Hr.out hS;exact⟨⟨i+1,_,p2,by omega,by go_num,HB'.out,HM.out,hA2,hS2⟩,by simp[intOf];omega⟩
  . obtain rfl:i=N:=by omega
    have he:l.drop i=[]:=kAb (by rw[HLn.out];exact jBb _);rw[he] at hm;cases hm;have HA:=yH hA;clear he hA hb;go_wp2_with fail
    go_ret;exact⟨rfl,p1,HA.out,hS⟩
end
section
open Go.RowKit
theorem packTabs{E w:World}{I:PH}:∀(l:List (Nat×Nat)) (ms:List PH),Sat E I (tabs l++ms) w->∃tms:List PH,tms.length=l.length/\Sat E I (tms++ms) w/\∀(v:Nat) g tm,(l.map (·.1))[v]?=some g->tms[v]?=some tm->TabAt g [] tm
 | [],ms,h=>⟨[],rfl,h,λv g tm h=>by simp at h⟩
 | (g,M)::l,ms,h=>by
   have h1:Sat E I ([tbv g M,tbm M [] 0]++(tabs l++ms)) w:=by
    have:tabs ((g,M)::l)++ms=[tbv g M,tbm M [] 0]++(tabs l++ms):=by simp[tabs]
    rw[<- this];exact h
   obtain⟨m,hb,h2⟩:=Sat.pack [tbv g M,tbm M [] 0] h1;have h3:=h2.perm (jU (l₁:=tabs l) (l₂:=ms) (a:=m)).symm;obtain⟨tms,t1,t2,t3⟩:=packTabs l (m::ms) h3;have h4:=t2.perm (jU (l₁:=tms) (l₂:=ms) (a:=m));refine⟨m::tms,by simp[t1],h4,λv g' tm hg ht=>?_⟩;cases v with
   | zero =>
     simp at hg ht
     subst hg ht;exact⟨M,[],0,hb,MapOk.nil,rfl⟩
   | succ v=>exact t3 v g' tm (by simpa using hg) (by simpa using ht)
theorem idC_list(n:Nat):(idC n n).toList=(List.range n).flatMap ivC:=by
 unfold idC;simp only[qCa,List.replicate_zero,jZb];rw[List.flatMap_def];unfold ivC
 induction List.range n with
 | nil=>rfl
 | cons a l ih=>simp[iv,nv] at ih ⊢;exact ih
theorem tabVs_flat(l:List (Nat×Nat)):tabVs l=(l.map (·.1)).flatMap ptC:=by
 unfold tabVs ptC
 induction l with
 | nil=>rfl
 | cons a l ih=>simp[ih]
theorem snew_ok{E w:World}{I:PH}{ms:List PH}(n room:Nat)(hn:n<=64)(h1:1<=room)(h2:room<=1048576)(hS:Sat E I ms w) :
  Calls Tryz.prog 69 #[nv n,nv room] w λe w'=>∃S m,e=.returned (.tuple #[vPt S,.int .i64 0])/\StAt S (G.St.new n room) m/\Sat E I (m::ms) w':=by
 refine (nnew_ok E I ms n (room:Int) w hn (by omega) (by omega) hS).mono ?_;rintro e w' ⟨S,L,P,V1,V2,A,T,v,m,l,rfl,hl,hO,h⟩;refine⟨S,?_⟩;unfold stP at h;have e1:(PH.one S (.cells (stV L P v) 164)::m::tabs l++[PH.one L (.cells #[vSl n V1,vSl n V2] 166),PH.one V2 (.cells (idC n n) 3),PH.one V1 (.cells (idC n n) 3),PH.one P (.cells #[.int .i64 (room:Int),vSl 1 A,vSl 1 T,.slice none 0 0,.int .i64 0] 216),PH.one A (.cells node0 194),PH.one T (.cells #[.bool false] 4)]++ms) =
  (PH.one S (.cells (stV L P v) 164)::m::tabs l)++([PH.one L (.cells #[vSl n V1,vSl n V2] 166),PH.one V2 (.cells (idC n n) 3),PH.one V1 (.cells (idC n n) 3)]++([PH.one P (.cells #[.int .i64 (room:Int),vSl 1 A,vSl 1 T,.slice none 0 0,.int .i64 0] 216),PH.one A (.cells node0 194),PH.one T (.cells #[.bool false] 4)]++ms)):=by simp
 rw[e1] at h;have g1:=h.perm (show List.Perm _ ([PH.one P (.cells #[.int .i64 (room:Int),vSl 1 A,vSl 1 T,.slice none 0 0,.int .i64 0] 216),PH.one A (.cells node0 194),PH.one T (.cells #[.bool false] 4)]++(((PH.one S (.cells (stV L P v) 164)::m::tabs l)++[PH.one L (.cells #[vSl n V1,vSl n V2] 166),PH.one V2 (.cells (idC n n) 3),PH.one V1 (.cells (idC n n) 3)])++ms)) by
  rw[<- jE,<- jE,<- jE];exact (jIb).append_right ms)
 have g2:=g1.empty.perm (show List.Perm _ ([PH.one P (.cells #[.int .i64 (room:Int),vSl 1 A,vSl 1 T,.slice none 0 0,.int .i64 0] 216),PH.one A (.cells node0 194),PH.one T (.cells #[.bool false] 4),(λ_=>none:PH)]++(((PH.one S (.cells (stV L P v) 164)::m::tabs l)++[PH.one L (.cells #[vSl n V1,vSl n V2] 166),PH.one V2 (.cells (idC n n) 3),PH.one V1 (.cells (idC n n) 3)])++ms)) from (jU (l₁:=[_,_,_]) (a:=(λ_=>none:PH))).symm);obtain⟨mP,hbP,g3⟩:=Sat.pack [PH.one P (.cells #[.int .i64 (room:Int),vSl 1 A,vSl 1 T,.slice none 0 0,.int .i64 0] 216),PH.one A (.cells node0 194),PH.one T (.cells #[.bool false] 4),(λ_=>none:PH)] g2;have hPool:PoolAt P ⟨room,[none],[]⟩ mP:=by
  refine⟨⟨h2,show 0<1 by decide,by show 1<=room+1;omega,show 0<=1 by decide,λi nd h=>?_⟩,A,1,T,1,.slice none 0 0,_,_,_,hbP,?_,?_,?_⟩
  . cases i with
    | zero=>simp at h
    | succ i=>simp at h
  . exact OwnP.lit A 194 5 1 node0 (by decide) rfl
  . exact OwnP.lit T 4 1 1 #[.bool false] (by decide) rfl
  . exact OwnP.nil _ _
 have g4:=g3.perm (show List.Perm _ (tabs l++(PH.one S (.cells (stV L P v) 164)::PH.one L (.cells #[vSl n V1,vSl n V2] 166)::PH.one V1 (.cells (idC n n) 3)::PH.one V2 (.cells (idC n n) 3)::mP::m::ms)) by
  refine List.Perm.trans ?_ (jIb (l₁:=(PH.one S (.cells (stV L P v) 164)::PH.one L (.cells #[vSl n V1,vSl n V2] 166)::PH.one V1 (.cells (idC n n) 3)::PH.one V2 (.cells (idC n n) 3)::mP::m::ms)) (l₂:=tabs l))
  classical
  rw[List.perm_iff_count];intro a;simp only[List.count_cons,List.count_append,List.count_nil];omega)
 obtain⟨tms,t1,t2,t3⟩:=packTabs l _ g4;have g5:=t2.empty.perm (show List.Perm _ (PH.one S (.cells (stV L P v) 164)::PH.one L (.cells #[vSl n V1,vSl n V2] 166)::PH.one V1 (.cells (idC n n) 3)::PH.one V2 (.cells (idC n n) 3)::mP::m::(λ_=>none:PH)::(tms++ms)) by
  classical
  rw[List.perm_iff_count];intro a;simp only[List.count_cons,List.count_append];omega)
 have hz:idC n n=((List.range n).flatMap ivC).toArray:=by rw[<- idC_list]
 have hlit:∀V,OwnP (PH.one V (.cells (idC n n) 3)) 3 1 (vSl n V) (List.range n).length ((List.range n).flatMap ivC):=λV=>by
  have:=OwnP.lit V 3 1 n (idC n n) (jFb hn (by decide)) (by rw[idC_size (jBb n)];omega);rw[idC_list] at this;rw[List.length_range];exact this
 obtain⟨m',hA,hS'⟩:=StAt.close (s:=G.St.new n room) (L:=L) (P:=P) (vV:=vSl n V1) (vL:=vSl n V2) (vT:=v) (vC:=.slice none 0 0) (gs:=l.map (·.1)) (tms:=tms)
  ⟨by simp[G.St.new];omega,by simp[G.St.new];omega,by simp[G.St.new];omega,by simp[G.St.new],by simp[G.St.new],by simp[G.St.new],λc hc=>by simp[G.St.new] at hc;omega,λc hc=>by simp[G.St.new] at hc;omega⟩
  (hlit V1) (hlit V2) hPool (by show OwnP _ _ _ _ (List.replicate n []).length _;rw[kM,<- tabVs_flat];exact hO) (OwnP.nil _ _) (by simp[G.St.new,hl]) (by simp[G.St.new,t1,hl]) (λx g t tm e1 e2 e3=>by
    have:t=[]:=by
     have e2:(List.replicate n ([]:List G.Ent))[x]?=some t:=e2;rw[kUa] at e2;split at e2
     . injection e2 with e2;exact e2.symm
     . cases e2
    subst this;exact t3 x g tm e1 e3) g5
 exact⟨m',rfl,hA,hS'⟩
end
end Go.Proofs.YtidamcdklgfogaaGreat
