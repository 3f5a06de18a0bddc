import Derived.Test.YtidamcdklgfogaaGreatUax
set_option linter.unusedVariables false
set_option linter.unusedSimpArgs false
set_option maxRecDepth 100000
set_option maxHeartbeats 8000000
namespace Go.Proofs.YtidamcdklgfogaaGreat
section
open Go.RowKit
theorem G.StOk.saneD{B:Nat}{s:G.St}(h:G.StOk B s):Sane s:=⟨h.pl,λv=>h.tab_lt v⟩
theorem G.StOk.swap_lenD{B:Nat}{s:G.St}(h:G.StOk B s)(hr:G.many s.pl.slots<=1000000):∀s0 c,s.collect=some (s0,c)->∀v,(s0.tab v).length<=1000000:=λs0 c hc v=>by
 obtain⟨s1,h1,h2⟩:=h.collect;rw[h1] at hc;cases hc;have h3:=h2.ok.tab_len v;have h4:=h2.many;omega
structure InvS (S:G.Sem) (n c:Nat) (Φ:Int->Option G.Fn) (H:List (Int×Nat)) (r:Nat) (m:G.Mg):Prop where
 ok:G.Snd S n c m
 fn:m.fn=Φ
 hs:m.hs=H
 room:m.s.pl.room=r
theorem InvS.of{S:G.Sem}{n c:Nat}{m:G.Mg}(h:G.Snd S n c m):InvS S n c m.fn m.hs m.s.pl.room m:=⟨h,rfl,rfl,rfl⟩
section
variable{S:G.Sem} {n c r:Nat} {Φ:Int->Option G.Fn} {H:List (Int×Nat)} {m m':G.Mg}
theorem InvS.stay(h:InvS S n c Φ H r m)(h1:G.Snd S n c m')(h2:G.Stay m m'):InvS S n c Φ H r m':=⟨h1,h2.fn.trans h.fn,h2.hs.trans h.hs,h2.room.trans h.room⟩
theorem Snd.of_lt(h:G.Snd S n c m){k:Int}{a:Nat}(hk:m.of k=some a):a<4194304:=by
 obtain⟨_,_,h3⟩:=h.keys _ (G.of_mem hk);exact h.ok.val_lt h3
theorem Snd.hs_lt(h:G.Snd S n c m):∀q∈m.hs,q.2<4611686018427387904:=λq hq=>by
 obtain⟨_,_,h3⟩:=h.keys _ hq
 have:=h.ok.val_lt h3;omega
theorem Snd.new_none(h:G.Snd S n c m):m.of (m.next:Int)=none:=by
 cases hk:m.of (m.next:Int) with
 | none=>rfl
 | some a =>
   obtain⟨_,h2,_⟩:=h.keys _ (G.of_mem hk);simp only at h2;omega
theorem Snd.clear(h:G.Snd S n c m):G.Snd S n c { m with me:=G.Memo.none }:=⟨h.ok,G.MeOk.none _ _,h.vars,h.keys,h.nodup,h.refs,h.c0,h.c1,h.ev,h.next⟩
theorem InvS.keeps(hH:H.length<1152921504606846976)(hr:r<=900000):KeepsM (InvS S n c Φ H r) where
 sane:=λm h=>h.ok.ok.saneD
 pm:=λm h=>h.ok.ok.pm
 len:=λm h=>h.ok.ok.swap_lenD (by
  have h1:=h.ok.ok.pl.len;have h2:=G.many_le m.s.pl.slots;have h3:=h.room;omega)
 new:=λm h=>Snd.new_none h.ok
 ofl:=λm k a h hk=>by have:=Snd.of_lt h.ok hk;omega
 clear:=λm h=>⟨Snd.clear h.ok,h.fn,h.hs,h.room⟩
 coll:=λm s k h hc=>by
  obtain⟨m',k',h1,h2,h3,_⟩:=h.ok.collect;unfold G.Mg.collect at h1;rw[hc] at h1;cases h1;exact h.stay h2 h3
 swap:=λm s l e h hc=>by
  by_cases hb:l<0\/l≥(m.s.vars.length:Int)-1
  . rw[G.swap_bad hb] at hc
    cases hc;exact⟨Snd.clear h.ok,h.fn,h.hs,h.room⟩
  . have hv:=h.ok.vars
    obtain⟨k,rfl⟩:∃k:Nat,l=(k:Int):=⟨l.toNat,by omega⟩;obtain⟨s',e',h1,h2,h3,_⟩:=h.ok.swap (by rw[h.hs];exact hH) (k:=k) (by omega);rw[hc] at h1;cases h1;exact h.stay h2 h3
theorem InvS.step{α:Type}{K:Nat}{F:G.Mg->G.Step α}{R:G.Mg->α ⊕ Nat->Prop}(hF:∀m,InvS S n c Φ H r m->G.Runs S H.length K m (F m) R):∀m m' rs,InvS S n c Φ H r m->F m=some (m',rs)->InvS S n c Φ H r m'/\G.Ends K m m' R rs:=λm m' rs h he=>by
 obtain⟨m2,rs2,h1,h2,h3⟩:=hF m h;rw[he] at h1;cases h1;rw[<- h.hs] at h2;have hw:∀e∈m'.waits,e∈m.waits:=λe hm=>by
  cases rs with
  | ok a=>rw[h3.1] at hm;exact hm
  | stop st =>
    cases st with
    | event ev =>
      have h3:m.waits=ev::m'.waits:=h3;rw[h3];exact .tail _ hm
    | err er=>rw[h3.1] at hm;exact hm
 obtain⟨h4,h5⟩:=h.ok.grew h2 hw;exact⟨⟨h4,h5.trans h.fn,h2.hs.trans h.hs,h2.gro.room.trans h.room⟩,h3⟩
theorem InvS.doOk{K:Nat}{F:G.Mg->G.Step Nat}{R:G.Mg->Nat ⊕ Nat->Prop}(hF:∀m,InvS S n c Φ H r m->G.Runs S H.length K m (F m) R)(hv:∀m r,R m (.inl r)->G.val m.s.nd r)(h0:∀m,¬R m (.inr 0)):DoOk (InvS S n c Φ H r) F where
 step:=λm m' rs h he=>(InvS.step hF m m' rs h he).1
 lt:=λm m' f h he=>by
  obtain⟨h1,h2⟩:=InvS.step hF m m' _ h he
  have:=h1.ok.ok.val_lt (hv _ _ h2.2);omega
 ne:=λm m' h he=>by
  obtain⟨h1,h2⟩:=InvS.step hF m m' _ h he;rcases h2.2 with⟨h3,_⟩|⟨_,h3⟩
  . cases h3
  . exact h0 _ h3
end
end
namespace G
def foldE(F:Mg->Nat->Nat->Step Nat):List Int->Mg->Nat->Step Nat
 | [],m,r=>some (m,.ok r)
 | h::l,m,r=>(m.edge h).then λm e=>(F m r e).then λm r=>foldE F l m r
def andE(m:Mg)(a b:Nat):Step Nat:=m.ite fuel a b 1
def Mg.andM(m:Mg)(l:List Int):Option (Mg×Nat×Nat):=m.do_ λm=>foldE andE l m 0
structure Rw3 where
 v:Int
 lo:Int
 hi:Int
 deriving DecidableEq
structure RS where
 rows:List Rw3
 at_:List (Nat×Nat)
def RS.get(q:RS)(i:Nat):Option Nat:=(q.at_.find? λp=>p.1==i).map (·.2)
def downR:Nat->St->RS->Nat->Option (RS×Nat)
 | 0,_,_,_=>none
 | k+1,s,q,f =>
   match q.get (f/2) with
   | some n=>some (q,edge n (f%2==1))
   | none =>
     let p:=flipIf f (f%2==1)
     let v:=(s.topE [p]).1
     (downR k s q (s.splitI p v).1).bind λ(q,lo) =>
     (downR k s q (s.splitI p v).2).bind λ(q,hi) =>
     some (⟨q.rows++[⟨v,lo,hi⟩],q.at_++[(f/2,q.rows.length+1)]⟩,edge (q.rows.length+1) (f%2==1))
def rowsE:List Int->Mg->RS->List Nat->Step (RS×List Nat)
 | [],m,q,r=>some (m,.ok (q,r))
 | h::l,m,q,r=>(m.edge h).then λm e=>match downR fuel m.s q e with|none=>none|some (q,x)=>rowsE l m q (r++[x])
def rs0:RS:=⟨[],[(0,0)]⟩
def Mg.rowsM(m:Mg)(l:List Int):Option (Mg×((RS×List Nat) ⊕ Nat)):=m.look λm=>rowsE l m rs0 []
def loadE:List Rw3->Mg->List Nat->Step (List Nat)
 | [],m,ns=>some (m,.ok ns)
 | r::l,m,ns=>(m.mk_ r.v 1 0).then λm v=>(m.ite fuel v (flipIf (ns.getD (r.hi.toNat/2) 0) (r.hi.toNat%2==1)) (flipIf (ns.getD (r.lo.toNat/2) 0) (r.lo.toNat%2==1))).then λm k=>loadE l m (ns++[k])
def load1(rows:List Rw3)(root:Nat)(m:Mg):Step Nat:=(loadE (rows.take (root/2)) m [0]).then λm ns=>some (m,.ok (flipIf (ns.getD (root/2) 0) (root%2==1)))
def lives26:Option (List Rw3×List Nat×Bool) :=
 (Mg.new 2 400).var_ 0 |>.bind λ(m,x,e1) =>
 m.var_ 1 |>.bind λ(m,y,e2) =>
 m.andM [(x:Int),(y:Int)] |>.bind λ(m,f,e3) =>
 m.rowsM [(f:Int)] |>.bind λ(m,q) =>
 match q with
 | .inr _=>none
 | .inl (q,roots) =>
   m.do_ (load1 q.rows (roots.getD 0 0)) |>.bind λ(m,g,e4) =>
   some (q.rows,roots,(m.same f g).1&&(e1==0&&e2==0&&e3==0&&e4==0))
theorem lives26_is:lives26=some ([⟨1,1,0⟩,⟨0,1,2⟩],[4],true):=by decide +kernel
end G
namespace G
theorem RS.get_push(q:RS)(i n j:Nat)(r:Rw3):(⟨q.rows++[r],q.at_++[(i,n)]⟩:RS).get j=match q.get j with|some x=>some x|none=>if i=j then some n else none:=by
 unfold RS.get;simp only[kW];cases hf:q.at_.find? (λp=>p.1==j) with
 | some p=>rfl
 | none =>
   simp only[Option.none_or,Option.map_none];by_cases e:i=j
   . subst e;simp
   . rw[jAa e,jX (by simpa using e)];rfl
theorem down_succ(k:Nat)(s:St)(q:RS)(f:Nat):downR (k+1) s q f=match q.get (f/2) with
 | some n=>some (q,edge n (f%2==1))
 | none=>(downR k s q (s.splitI (flipIf f (f%2==1)) (s.topE [flipIf f (f%2==1)]).1).1).bind λ(q,lo) =>
   (downR k s q (s.splitI (flipIf f (f%2==1)) (s.topE [flipIf f (f%2==1)]).1).2).bind λ(q,hi) =>
   some (⟨q.rows++[⟨(s.topE [flipIf f (f%2==1)]).1,lo,hi⟩],q.at_++[(f/2,q.rows.length+1)]⟩,edge (q.rows.length+1) (f%2==1)):=rfl
theorem topE_one{s:St}{p:Nat}{n:Nd}(hn:s.nd (p/2)=some n):(s.topE [p]).1=(n.v:Int):=by
 have ha:s.at_ p=some (n.v,flipIf n.lo (p%2==1),flipIf n.hi (p%2==1)):=by unfold St.at_;rw[hn];rfl
 simp only[St.topE,List.foldl_cons,List.foldl_nil,ha];rw[jAb (.inl (by decide))]
theorem splitI_kid{s:St}{p:Nat}{n:Nd}(hn:s.nd (p/2)=some n):(s.splitI p (s.topE [p]).1).1/2=n.lo/2/\(s.splitI p (s.topE [p]).1).2/2=n.hi/2:=by
 rw[topE_one hn];have ha:s.at_ p=some (n.v,flipIf n.lo (p%2==1),flipIf n.hi (p%2==1)):=by unfold St.at_;rw[hn];rfl
 simp only[St.splitI,ha,jEb];exact⟨Qx _ _,Qx _ _⟩
theorem topE_none{s:St}{p:Nat}(hn:s.nd (p/2)=none):s.splitI p (s.topE [p]).1=(p,p):=by
 have ha:s.at_ p=none:=by unfold St.at_;rw[hn];rfl
 simp only[St.splitI,ha]
theorem down_stuck{s:St}{p:Nat}(hn:s.nd (p/2)=none)(hp:p%2=0):∀(k:Nat) (q:RS),q.get (p/2)=none->downR k s q p=none
 | 0,q,_=>rfl
 | k+1,q,h=>by
   have hf:flipIf p (p%2==1)=p:=by unfold flipIf;rw[hp];rfl
   rw[down_succ,h];simp only[hf,topE_none hn];rw[down_stuck hn hp k q h];rfl
theorem flipIf_self_even(f:Nat):flipIf f (f%2==1)%2=0:=by
 unfold flipIf flip;rcases jKa f with h|h <;> simp[h] <;> omega
theorem down_keys{s:St}{rk:Nat->Nat}(hac:Acyc s.nd rk):∀(k:Nat) (q q':RS) (f e:Nat),(q.get 0).isSome=true->downR k s q f=some (q',e) ->
  (∀i,(q'.get i).isSome=true->(q.get i).isSome=true\/rk i<=rk (f/2))/\(∀i n,q.get i=some n->q'.get i=some n)/\q.rows.length<=q'.rows.length/\(∀i n,q'.get i=some n->q.get i=some n\/n<=q'.rows.length)
 | 0,q,q',f,e,_,h=>by cases h
 | k+1,q,q',f,e,h0,h=>by
   rw[down_succ] at h;cases hg:q.get (f/2) with
   | some n =>
     rw[hg] at h;cases h;exact⟨λi h=>.inl h,λi n h=>h,jBb _,λi n h=>.inl h⟩
   | none =>
     rw[hg] at h;simp only at h;generalize hp:flipIf f (f%2==1)=p at *
     have hpf:p/2=f/2:=by rw[<- hp];exact Qx _ _
     have hpe:p%2=0:=by rw[<- hp];exact flipIf_self_even f
     cases hn:s.nd (p/2) with
     | none =>
       simp only[topE_none hn] at h;rw[down_stuck hn hpe k q (by rw[hpf];exact hg)] at h;cases h
     | some n =>
       obtain⟨k1,k2⟩:=splitI_kid hn;generalize (s.splitI p (s.topE [p]).1).1=lo at *
       generalize (s.splitI p (s.topE [p]).1).2=hi at *
       have hf0:f/2≠0:=λe0=>by rw[e0] at hg;rw[hg] at h0;cases h0
       have rl:∀i,rk i<=rk (lo/2)->lo/2≠0->rk i<=rk (f/2):=λi hi' hne=>by
        have:=(hac.lo _ _ hn).2 (by rw[<- k1];exact hne);rw[<- k1,hpf] at this;omega
       have rh:∀i,rk i<=rk (hi/2)->hi/2≠0->rk i<=rk (f/2):=λi hi' hne=>by
        have:=(hac.hi _ _ hn).2 (by rw[<- k2];exact hne);rw[<- k2,hpf] at this;omega
       cases hd1:downR k s q lo with
       | none=>rw[hd1] at h;cases h
       | some x =>
         obtain⟨q1,e1⟩:=x;rw[hd1] at h;simp only[Option.bind_some] at h;obtain⟨a1,a2,a3,a4⟩:=down_keys hac k q q1 lo e1 h0 hd1;have h01:(q1.get 0).isSome=true:=by
          obtain⟨z,hz⟩:=yF.1 h0;rw[a2 _ _ hz];rfl
         cases hd2:downR k s q1 hi with
         | none=>rw[hd2] at h;cases h
         | some x =>
           obtain⟨q2,e2⟩:=x;rw[hd2] at h;simp only[Option.bind_some] at h;obtain⟨b1,b2,b3,b4⟩:=down_keys hac k q1 q2 hi e2 h01 hd2;cases h;have zk:∀(k:Nat) (q q':RS) (g e:Nat),(q.get 0).isSome=true->g/2=0->downR k s q g=some (q',e)->q'=q:=λk q q' g e hz hg0 hd=>by
            cases k with
            | zero=>cases hd
            | succ k =>
              rw[down_succ] at hd;obtain⟨z,hz⟩:=yF.1 hz;rw[hg0,hz] at hd;cases hd;rfl
           refine⟨λi hi'=>?_,λi x hx=>?_,by simp only[yG,yB,yC];omega,λi x hx=>?_⟩
           . rw[RS.get_push] at hi'
             cases hq2:q2.get i with
             | some y =>
               rcases b1 i (by rw[hq2];rfl) with h1|h1
               . rcases a1 i h1 with h2|h2
                 . exact .inl h2
                 . by_cases hz:lo/2=0
                   . rw[zk k q q1 lo e1 h0 hz hd1] at h1;exact .inl h1
                   . exact .inr (rl i h2 hz)
               . by_cases hz:hi/2=0
                 . have:=zk k q1 q2 hi e2 h01 hz hd2
                   subst this;rcases a1 i (by rw[hq2];rfl) with h2|h2
                   . exact .inl h2
                   . by_cases hz:lo/2=0
                     . have:=zk k q q2 lo e1 h0 hz hd1
                       subst this;exact .inl (by rw[hq2];rfl)
                     . exact .inr (rl i h2 hz)
                 . exact .inr (rh i h1 hz)
             | none =>
               rw[hq2] at hi';simp only at hi';split at hi'
               . rename_i e0;exact .inr (by rw[e0];exact jBb _)
               . cases hi'
           . rw[RS.get_push,b2 _ _ (a2 _ _ hx)]
           . rw[RS.get_push] at hx
             simp only[yG,yB,yC];cases hq2:q2.get i with
             | some y =>
               rw[hq2] at hx;cases hx;rcases b4 i _ hq2 with h1|h1
               . rcases a4 i _ h1 with h2|h2
                 . exact .inl h2
                 . exact .inr (by omega)
               . exact .inr (by omega)
             | none =>
               rw[hq2] at hx;simp only at hx;split at hx
               . cases hx;exact .inr (by omega)
               . cases hx
theorem down_fresh{s:St}{rk:Nat->Nat}(hac:Acyc s.nd rk){k:Nat}{q q1 q2:RS}{f e1 e2:Nat}(h0:(q.get 0).isSome=true)(hg:q.get (f/2)=none)
  (hd1:downR k s q (s.splitI (flipIf f (f%2==1)) (s.topE [flipIf f (f%2==1)]).1).1=some (q1,e1))(hd2:downR k s q1 (s.splitI (flipIf f (f%2==1)) (s.topE [flipIf f (f%2==1)]).1).2=some (q2,e2)):q2.get (f/2)=none:=by
 generalize hp:flipIf f (f%2==1)=p at *
 have hpf:p/2=f/2:=by rw[<- hp];exact Qx _ _
 have hpe:p%2=0:=by rw[<- hp];exact flipIf_self_even f
 cases hn:s.nd (p/2) with
 | none =>
   simp only[topE_none hn] at hd1;rw[down_stuck hn hpe k q (by rw[hpf];exact hg)] at hd1;cases hd1
 | some n =>
   obtain⟨k1,k2⟩:=splitI_kid hn;generalize (s.splitI p (s.topE [p]).1).1=lo at *
   generalize (s.splitI p (s.topE [p]).1).2=hi at *
   obtain⟨a1,a2,_,_⟩:=down_keys hac k q q1 lo e1 h0 hd1;have h01:(q1.get 0).isSome=true:=by
    obtain⟨z,hz⟩:=yF.1 h0;rw[a2 _ _ hz];rfl
   obtain⟨b1,_,_,_⟩:=down_keys hac k q1 q2 hi e2 h01 hd2;have zk:∀(q q':RS) (g e:Nat),(q.get 0).isSome=true->g/2=0->downR k s q g=some (q',e)->q'=q:=λq q' g e hz hg0 hd=>by
    cases k with
    | zero=>cases hd
    | succ k =>
      rw[down_succ] at hd;obtain⟨z,hz⟩:=yF.1 hz;rw[hg0,hz] at hd;cases hd;rfl
   cases hq2:q2.get (f/2) with
   | none=>rfl
   | some y =>
     exfalso
     have c1:(q1.get (f/2)).isSome=true->False:=λh1=>by
      rcases a1 _ h1 with h2|h2
      . rw[hg] at h2;cases h2
      . by_cases hz:lo/2=0
        . rw[zk q q1 lo e1 h0 hz hd1,hg] at h1;cases h1
        . have:=(hac.lo _ _ hn).2 (by rw[<- k1];exact hz)
          rw[<- k1,hpf] at this;omega
     rcases b1 (f/2) (by rw[hq2];rfl) with h1|h1
     . exact c1 h1
     . by_cases hz:hi/2=0
       . have:=zk q1 q2 hi e2 h01 hz hd2
         subst this;exact c1 (by rw[hq2];rfl)
       . have:=(hac.hi _ _ hn).2 (by rw[<- k2];exact hz)
         rw[<- k2,hpf] at this;omega
end G
section
open Go.RowKit
theorem ty_z22:Xh Tryz.prog 22=some (.slice none 0 0):=by kernel_rfl
theorem Zo:Ky Tryz.prog 62=some true:=by kernel_rfl
theorem Xv:Kg Tryz.prog 62=some 3:=by kernel_rfl
def rowC(r:G.Rw3):List Value:=[.int .i64 r.v,.int .i64 r.lo,.int .i64 r.hi]
theorem rowC_len(r:G.Rw3):(rowC r).length=3:=rfl
theorem row3_info:(Tryz.prog.info? 62).map (λi=>(i.zero,i.size,i.bytes))=some (some (.agg #[.int .i64 0,.int .i64 0,.int .i64 0]),3,24):=by kernel_rfl
def MtR(l:List (Rw Int))(q:List (Nat×Nat)):Prop:=l.map (λr=>(r.k,r.v))=q.map (λp=>(((p.1:Nat):Int),nv p.2))
theorem MtR.get{l:List (Rw Int)}{q:List (Nat×Nat)}(h:MtR l q)(x:Nat):getR l (x:Int)=((q.find? λp=>p.1==x).map (·.2)).map nv:=by
 unfold MtR at h
 induction l generalizing q with
 | nil =>
   cases q with
   | nil=>rfl
   | cons p q=>cases h
 | cons r l ih =>
   cases q with
   | nil=>cases h
   | cons p q =>
     simp only[jDb,qAb,jIa] at h;obtain⟨⟨h1,h2⟩,h3⟩:=h;have ih:=ih h3;unfold getR at ih ⊢;by_cases e:p.1=x
     . rw[kKb (by simp[h1,e]),kKb (by simpa using e)];simp[h2]
     . rw[jX (by simp[h1];omega),jX (by simpa using e)];exact ih
theorem MtR.push{l:List (Rw Int)}{q:List (Nat×Nat)}(h:MtR l q)(i n c:Nat):MtR (l++[⟨(i:Int),nv n,c⟩]) (q++[(i,n)]):=by
 unfold MtR at h ⊢;rw[jGa,jGa,h];rfl
def DwP(H X1:Nat)(q:G.RS)(ms ns:List PH):Prop:=∃l clock vR mR,MapOk l clock/\MtR l q.at_/\OwnP mR 62 3 vR q.rows.length (q.rows.flatMap rowC)/\ns=PH.one H (Qj ikey l clock)::PH.one X1 (.cells #[vR] 22)::mR::ms
theorem atLookupB{P:Program}{a:Act}{w:World}{K:Act->World->Prop}{Q:Exit->Act->World->Prop}{dst:Option Tmp}{type:TypeId}{pos:String}{after:Array Edge}{g:Option (Nat×Bool)}{T:TypeId}{m y:Operand}{c:Bool}(h:Oper.wp P ⟨dst,.lookup T m y c,type,pos,after,g⟩ a w K Q):Oper.wp P ⟨dst,.lookup T m y c,type,pos,after,g⟩ a w K Q:=h
theorem NumR.one{I:PH}{X:Nat}{x:Nat}(h:(PH.one X (.cells #[nv x] 102)).le I):NumR I (.slice (some ⟨X,0,none⟩) 1 1) [x] :=
 (OwnP.num (l:=[x]) (OwnP.lit X 102 1 1 #[nv x] (by decide) rfl)).le h
structure DwI (I:PH) (D X H X1 X4 X5 X6:Nat) (m:G.Mg):Prop where
 i5:I.at X5 0=some (.map (some H))
 i4:I.at X4 0=some (vPt X)
 iX:I.at X 0=some (vPt D)
 i6:I.at X6 0=some (.func (.func 48) #[] #[vPt X5,vPt X4,vPt X6,vPt X1])
 hM:MgR I D m
theorem DwI.le{I J:PH}{D X H X1 X4 X5 X6:Nat}{m:G.Mg}(h:DwI I D X H X1 X4 X5 X6 m)(hJ:I.le J):DwI J D X H X1 X4 X5 X6 m:=⟨PH.at_le hJ h.i5,PH.at_le hJ h.i4,PH.at_le hJ h.iX,PH.at_le hJ h.i6,h.hM.le hJ⟩
def DownC(D X H X1 X4 X5 X6:Nat)(m:G.Mg)(k:Nat):Prop:=∀(I:PH) (q q':G.RS) (f e:Nat),DwI I D X H X1 X4 X5 X6 m->G.downR k m.s q f=some (q',e)->(q.get 0).isSome=true->(∀i n,q.get i=some n->n<4194303)->q'.rows.length<4000000->f<4611686018427387904 ->
 ∀(E:World) (ms ns:List PH) (w:World),DwP H X1 q ms ns->Sat E I ns w ->
   Calls Tryz.prog 48 #[nv f,vPt X5,vPt X4,vPt X6,vPt X1] w λe' w'=>e'=.returned (nv e)/\∃ns',DwP H X1 q' ms ns'/\Sat E I ns' w'
theorem ddown_step{D X H X1 X4 X5 X6:Nat}{m:G.Mg}{rk:Nat->Nat}(hac:G.Acyc m.s.nd rk)(k:Nat)(ih:DownC D X H X1 X4 X5 X6 m k):DownC D X H X1 X4 X5 X6 m (k+1):=by
 intro I q q' f e hI hd h0 hb hlen hf E ms ns w hP hS;obtain⟨l,clock,vR,mR,hok,hmt,hO,rfl⟩:=hP;rw[G.down_succ] at hd;have HIj:=yH (λ(J:PH) (h:I.le J)=>hI.le h);obtain⟨i5,i4,iX,i6,hM⟩:=hI;have hq:=hmt.get (f/2);have hg:q.get (f/2)=(q.at_.find? λp=>p.1==f/2).map (·.2):=rfl;rw[<- hg] at hq;have HNd:=yH (λw:World=>Xs (w:=w) f (by omega));have HNg:=yH (λw:World=>eneg_any (w:=w) f);clear hg;cases hgq:q.get (f/2) with
 | some n =>
   rw[hgq] at hd hq;have hn:=hb _ _ hgq;cases hd;have HQ:=yH hq;have HOf:=yH (λw:World=>eof_any (w:=w) n (f%2==1) (by omega));have HPk:=yH (And.intro hok (And.intro hmt hO));clear hq hgq hok hmt hO hb ih hac hM;go_enter Tryz.func48,Tryz.ntmps48;go_wp2_with fail
   refine Kf (λ_ _=>False) [[],[],[1],[0,1,2],[0,1,2,3],[0,1,2,3,4],[0,1,2,3,4],[0,1,2,3,4,5],[0,1,2,3,4,5,6,7]] E I _
    [λv _=>v=.map (some H),λv _=>v=nv f,λv _=>v=nv (f/2),λv _=>v=.tuple #[nv n,.bool true],λv _=>v=.tuple #[nv n,.bool true],λv _=>v=nv n,λv _=>v=.bool true,λv _=>v=nv n,λv _=>v=.bool true] []
    (λ_ _ _ ns=>ns=PH.one H (Qj ikey l clock)::PH.one X1 (.cells #[vR] 22)::mR::ms) (by kernel_rfl) (by kernel_rfl) (by decide) hS rfl ?last (λ_ _ _ _ _ _ h=>h) (λ_ _ _ _ _ _ h=>h) ?plain ?step ?hZ ?fin
   case last=>exact bL
   case plain=>(repeat' (first|exact trivial|apply And.intro)) <;>  (refine .inr ?_;intro s vals J bs w hstop hg hJ hS hG;( (have h0:s<=0:=hstop;obtain rfl:s=0:=kQa.1 h0;have hG:bs=_:=hG;subst hG) );refine bZ ?_;intro K HK;(first|(refine bJ ?_)|((with_reducible refine atLookupB ?_);(refine wp_lk (x:=((f/2:Nat):Int)) (hS.mle (k:=0) rfl) (PH.one_self _ _) kI Tryz.underlying100 ty_z3 rfl rfl rfl ?_;simp only[jEb];rw[HQ.out];simp only[Option.map_some,zJ,Option.isSome_some]))|(go_wp2_with (first|(go_at_call 49;with_reducible refine bC (HNd.out _) ?_))));exact bO)
   case step=>trivial
   case hZ=>exact λ_ _ _ _ h=>h.elim
   case fin =>
    intro vals J9 bs w hJ hg hS hG;have hG:bs=_:=hG;subst hG;have hS:=hS.less hJ;clear hJ;refine bH ?_;clear hg;go_wp2_with (first|(go_at_call 51;with_reducible refine bC (HNg.out _) ?_)|(go_at_call 54;with_reducible refine bC (HOf.out _) ?_))
    go_ret;exact⟨rfl,_,⟨l,clock,vR,mR,HPk.out.1,HPk.out.2.1,HPk.out.2.2,rfl⟩,hS⟩
 | none =>
   rw[hgq] at hd hq;simp only at hd;have HQ:=yH hq;have HFl:=yH (λw:World=>Zn (w:=w) f (f%2==1) hf);have hp:=Kh hf (f%2==1);have hfresh:=λq1 q2 e1 e2=>G.down_fresh (k:=k) (q1:=q1) (q2:=q2) (e1:=e1) (e2:=e2) hac h0 hgq
   have hkeys:=λ(q q':G.RS) (f e:Nat)=>G.down_keys hac k q q' f e
   have hfit:PlFit m.s.pl:=by obtain⟨_,S,M,H,wv,_,_,_,_,_,_,h7,_⟩:=hM;obtain⟨_,_,P,_,_,_,_,_,_,_,_,_,_,_,_,_,_,hP,_⟩:=h7;exact hP.1
   generalize hpp:G.flipIf f (f%2==1)=p at *
   have HTop:=yH (λ(w':World) (hX':(Qa w').at X 0=some (vPt D)) (hR:MgR (Qa w') D m) (vl:Value) (hl:NumR (Qa w') vl [p])=>xtop_any hX' hR [p] vl hl (λx hx=>by simp only[jBa,jCa,jJb] at hx;subst hx;exact hp) (by simp));generalize (m.s.topE [p]).1=tv at *
   have HSp:=yH (λ(w':World) (hX':(Qa w').at X 0=some (vPt D)) (hR:MgR (Qa w') D m)=>xsplit_any hX' hR p tv hp);obtain⟨bl,bh⟩:=splitI_lt hfit hp tv;generalize (m.s.splitI p tv).1=lo at *
   generalize (m.s.splitI p tv).2=hi at *
   cases hd1:G.downR k m.s q lo with
   | none=>rw[hd1] at hd;cases hd
   | some x1 =>
     obtain⟨q1,e1⟩:=x1;rw[hd1] at hd;simp only[zK] at hd;cases hd2:G.downR k m.s q1 hi with
     | none=>rw[hd2] at hd;cases hd
     | some x2 =>
       obtain⟨q2,e2⟩:=x2;rw[hd2] at hd;simp only[zK,jEa,jIa] at hd;obtain⟨rfl,rfl⟩:=hd;simp only[yG,yB,yC] at hlen;obtain⟨_,a2,a3,a4⟩:=hkeys _ _ _ _ h0 hd1;have h01:(q1.get 0).isSome=true:=by
        obtain⟨z,hz⟩:=yF.1 h0;rw[a2 _ _ hz];rfl
       obtain⟨_,b2,b3,b4⟩:=hkeys _ _ _ _ h01 hd2;have hb1:∀i n,q1.get i=some n->n<4194303:=λi n hin=>by
        rcases a4 i n hin with h|h
        . exact hb i n h
        . omega
       have hnone:q2.get (f/2)=none:=hfresh _ _ _ _ hd1 hd2;have H1:=yH (λ(J:PH) (E:World) (ns:List PH) (w:World) (hJ:I.le J) (hP:DwP H X1 q ms ns) (h:Sat E J ns w)=>ih J q q1 lo e1 (HIj.out J hJ) hd1 h0 hb (by omega) bl E ms ns w hP h);have H2:=yH (λ(J:PH) (E:World) (ns:List PH) (w:World) (hJ:I.le J) (hP:DwP H X1 q1 ms ns) (h:Sat E J ns w)=>ih J q1 q2 hi e2 (HIj.out J hJ) hd2 h01 hb1 (by omega) bh E ms ns w hP h);have HPk:=yH (And.intro hok (And.intro hmt hO));have HNn:=yH hnone;have hl2:q2.rows.length<4000000:=by omega
       have HOf:Hid (∀w:World,Calls Tryz.prog 54 #[.int .i64 ((q2.rows.length:Int)+1),.bool (f%2==1)] w λe w'=>e=.returned (nv (G.edge (q2.rows.length+1) (f%2==1)))/\w=w'):=yH λw=>eof_any (w:=w) (q2.rows.length+1) (f%2==1) (by omega)
       clear hq hgq hok hmt hO hb ih hac hfresh hkeys hfit a2 a3 a4 b2 b3 b4 h0 h01 hb1 hnone hd1 hd2 hpp bl bh hlen;go_enter Tryz.func48,Tryz.ntmps48;go_wp2_with fail
       refine Kf (λ_ _=>False) [[],[],[1],[0,1,2],[0,1,2,3],[0,1,2,3,4],[0,1,2,3,4],[0,1,2,3,4,5],[0,1,2,3,4,5,6,7]] E I _
        [λv _=>v=.map (some H),λv _=>v=nv f,λv _=>v=nv (f/2),λv _=>v=.tuple #[.int .i64 0,.bool false],λv _=>v=.tuple #[.int .i64 0,.bool false],λv _=>v=.int .i64 0,λv _=>v=.bool false,λv _=>v=.int .i64 0,λv _=>v=.bool false] []
        (λ_ _ _ ns=>ns=PH.one H (Qj ikey l clock)::PH.one X1 (.cells #[vR] 22)::mR::ms) (by kernel_rfl) (by kernel_rfl) (by decide) hS rfl ?last (λ_ _ _ _ _ _ h=>h) (λ_ _ _ _ _ _ h=>h) ?plain ?step ?hZ ?fin
       case last=>exact bL
       case plain=>(repeat' (first|exact trivial|apply And.intro)) <;>  (refine .inr ?_;intro s vals J bs w hstop hg hJ hS hG;( (have h0:s<=0:=hstop;obtain rfl:s=0:=kQa.1 h0;have hG:bs=_:=hG;subst hG) );refine bZ ?_;intro K HK;(first|(refine bJ ?_)|((with_reducible refine atLookupB ?_);(refine wp_lk (x:=((f/2:Nat):Int)) (hS.mle (k:=0) rfl) (PH.one_self _ _) kI Tryz.underlying100 ty_z3 rfl rfl rfl ?_;simp only[jEb];rw[HQ.out];simp only[Option.map_none,Option.getD_none,Option.isSome_none]))|(go_wp2_with (first|(go_at_call 49;with_reducible refine bC (HNd.out _) ?_))));exact bO)
       case step=>trivial
       case hZ=>exact λ_ _ _ _ h=>h.elim
       case fin =>
        intro vals J9 bs w hJ hg hS hG;have hG:bs=_:=hG;subst hG;have hS:=hS.less hJ;clear hJ;refine bH ?_;clear hg HQ;go_wp2_with (first|(go_at_call 51;with_reducible refine bC (HNg.out _) ?_)|(go_at_call 50;with_reducible refine bC (HFl.out _) ?_)|(go_at_call 52;(with_reducible refine yI (HTop.out _ (PH.at_le hS.ile iX) (hM.le hS.ile) _ (NumR.one (hS.mle (k:=0) rfl))) ?_);rintro e w9 ⟨rfl,hb⟩;replace hS:=(hS.below_ hb).drop;clear hb)|(go_at_call 53;(with_reducible refine bB hS (HSp.out _ (PH.at_le hS.ile iX) (hM.le hS.ile)) ?_);clear hS;intro w9 hS)|(refine aL ?_)|(refine aY ?_;clear hS;intro XS w hS))
        refine Kf (λ_ _=>False) [[],[],[0,1],[],[],[0,1,2,3,4],[0,1,2,3,4,5],[0,1,2,3,4,5,6]] E I _
         [λv _=>v=.func (.func 48) #[] #[vPt X5,vPt X4,vPt X6,vPt X1],λv _=>v=nv lo,λv _=>v=nv e1,λv _=>v=.func (.func 48) #[] #[vPt X5,vPt X4,vPt X6,vPt X1],λv _=>v=nv hi,λv _=>v=nv e2,λv _=>v=nv e1,λv _=>v=nv e2] [2,5]
         (λs _ _ ns=>DwP H X1 (if s=0 then q else if s=1 then q1 else q2) ms ns) (by kernel_rfl) (by kernel_rfl) (by decide) hS ⟨l,clock,vR,mR,HPk.out.1,HPk.out.2.1,HPk.out.2.2,rfl⟩ ?last (λ_ _ _ _ _ _ h=>h) (λ_ _ _ _ _ _ h=>h) ?plain ?step ?hZ ?fin
        case last=>exact bL
        case plain=>(repeat' (first|exact trivial|apply And.intro)) <;> first|exact .inl rfl|(refine .inr ?_;intro s vals J bs w hstop hg hJ hS hG;clear hG;refine bZ ?_;intro K HK;(first|(refine bJ ?_)|(go_wp2_with (fail)));exact bO)
        case step =>
         refine⟨⟨trivial,?_⟩,?_⟩
         . intro vals J bs w hg hJ hS hG
           have HG:=yH (show DwP H X1 q ms bs from hG);clear hG;refine bZ ?_;intro K HK;go_wp2_with (first|(go_at_call 48;(with_reducible refine bD (H1.out _ _ _ _ hJ HG.out hS) ?_);clear hS;intro w ns1 HP1 hS))
           exact HK.out _ _ ⟨rfl,J,_,PH.le.refl _,hS,rfl,HP1.out⟩
         . intro vals J bs w hg hJ hS hG
           have HG:=yH (show DwP H X1 q1 ms bs from hG);clear hG;refine bZ ?_;intro K HK;go_wp2_with (first|(go_at_call 48;(with_reducible refine bD (H2.out _ _ _ _ hJ HG.out hS) ?_);clear hS;intro w ns1 HP1 hS))
           exact HK.out _ _ ⟨rfl,J,_,PH.le.refl _,hS,rfl,HP1.out⟩
        case hZ=>exact λ_ _ _ _ h=>h.elim
        case fin =>
         intro vals J9 bs w hJ hg hS hG;have hG:DwP H X1 q2 ms bs:=hG;have hS:=hS.less hJ;obtain⟨l2,clock2,vR2,mR2,hok2,hmt2,hO2,rfl⟩:=hG;have hq2:=hmt2.get (f/2);have hg2:q2.get (f/2)=(q2.at_.find? λp=>p.1==f/2).map (·.2):=rfl;rw[<- hg2,HNn.out] at hq2;have HQ2:=yH hq2;have HOk2:=yH hok2;have HMt2:=yH hmt2;have HO2:=yH hO2;clear hJ hq2 hg2 hok2 hmt2 hO2 H1 H2 HPk;refine bH ?_;clear hg;go_wp2_with (first|((with_reducible refine isAppend ?_);(refine' apP (p:=_) (m:=_) (v:=_) (n:=_) (xs:=_) (news:=_) 3 (.inr (List.Mem.head _)) hS rfl rfl rfl Tryz.underlying22 row3_info rfl (by decide) rfl HO2.out rfl ?hl ?hcl ?h1 ?h63 ?hby ?_);(case hcl=>exact Cells.one _ _ _ _);(case hl=>rfl);(case h1=>rfl);(case h63=>(unfold maxLen;omega));(case hby=>omega);clear hS;intro v1 m4 w hO4 hS;refine Veil.out ?_;obtain⟨A4,c4,rfl,_⟩:=OwnP.shape hO4;refine⟨?_⟩;have HO4:=yH hO4;clear hO4;(try simp only[zF,zG] at hS);refine aM ?_)|(refine aL ?_)|(refine aS ?_;clear hS;intro w hS)|(refine aY ?_;clear hS;intro XS w hS))
         replace hS:=hS.drop;refine Kf (λ_ _=>False) [[],[],[1],[],[0,1,2,3]] E I _
          [λv _=>v=.map (some H),λv _=>v=nv f,λv _=>v=nv (f/2),λv _=>v=.int .i64 ((q2.rows.length:Int)+1),λ_ _=>True] [4]
          (set1G _ 0 (λm'=>m'=PH.one H (Qj ikey (l2++[⟨((f/2:Nat):Int),.int .i64 ((q2.rows.length:Int)+1),clock2⟩]) (clock2+1)))) (by kernel_rfl) (by kernel_rfl) (by decide) hS rfl ?last (λ_ _ _ _ _ _ h=>h) (λ_ _ _ _ _ _ h=>h) ?plain ?step ?hZ ?fin
         case last=>exact bL
         case plain=>(repeat' (first|exact trivial|apply And.intro)) <;> first|exact .inl rfl|(refine .inr ?_;intro s vals J bs w hstop hg hJ hS hG;clear hG;refine bZ ?_;intro K HK;(first|(refine bJ ?_)|(go_wp2_with (first|(go_at_call 49;with_reducible refine bC (HNd.out _) ?_))));exact bO)
         case step =>
          refine⟨trivial,?_⟩;intro vals J bs w hg hJ hS hG;have hG:bs=_:=hG;subst hG;refine bZ ?_;intro K HK;refine wp_mu (x:=((f/2:Nat):Int)) hS 0 rfl kI Tryz.underlying100 rfl rfl rfl rfl HOk2.out λw' hS'=>?_
          rw[HQ2.out] at hS';simp only[Option.map_none,Option.isSome_none,jFa,jOb] at hS';exact HK.out _ _ ⟨rfl,J,_,PH.le.refl _,hS',trivial,_,rfl,rfl⟩
         case hZ=>exact λ_ _ _ _ h=>h.elim
         case fin =>
          intro vals J9 bs w hJ hg hS hG;obtain⟨mH,rfl,hns⟩:=hG;subst hns;have hS:=hS.less hJ;simp only[zG] at hS;clear hJ;refine bH ?_;clear hg;go_wp2_with (first|(go_at_call 51;with_reducible refine bC (HNg.out _) ?_)|(go_at_call 54;with_reducible refine bC (HOf.out _) ?_))
          go_ret;refine⟨rfl,_,⟨_,_,_,m4,HOk2.out.push HQ2.out _,HMt2.out.push _ _ _,?_,rfl⟩,hS⟩;simp only[yG,yB,yC,jNb,jMb,List.flatMap_nil,jZb];exact HO4.out
theorem ddown_any{D X H X1 X4 X5 X6:Nat}{m:G.Mg}{rk:Nat->Nat}(hac:G.Acyc m.s.nd rk):∀k,DownC D X H X1 X4 X5 X6 m k
 | 0=>λI q q' f e _ h=>by cases h
 | k+1=>ddown_step hac k (ddown_any hac k)
end
namespace G
theorem rowsE_cons(h:Int)(l:List Int)(m:Mg)(q:RS)(r:List Nat):rowsE (h::l) m q r=(m.edge h).then λm e=>match downR fuel m.s q e with|none=>none|some (q,x)=>rowsE l m q (r++[x]):=rfl
theorem rowsE_append:∀(a b:List Int) (m:Mg) (q:RS) (r:List Nat),rowsE (a++b) m q r=match rowsE a m q r with|none=>none|some (m',.stop s)=>some (m',.stop s)|some (m',.ok (q',r'))=>rowsE b m' q' r'
 | [],b,m,q,r=>rfl
 | h::a,b,m,q,r=>by
   rw[List.cons_append,rowsE_cons,rowsE_cons];unfold Mg.edge;cases m.of h with
   | none=>rfl
   | some f =>
     simp only[Step.then];cases downR fuel m.s q f with
     | none=>rfl
     | some x=>exact rowsE_append a b m x.1 (r++[x.2])
theorem rowsE_same:∀(l:List Int) (m m':Mg) (q:RS) (r:List Nat) (rs:Rs (RS×List Nat)),rowsE l m q r=some (m',rs)->m'=m
 | [],m,m',q,r,rs,h=>by cases h;rfl
 | k::l,m,m',q,r,rs,h=>by
   rw[rowsE_cons] at h;unfold Mg.edge at h;cases hk:m.of k with
   | none=>rw[hk] at h;cases h;rfl
   | some f =>
     rw[hk] at h;simp only[Step.then] at h;cases hd:downR fuel m.s q f with
     | none=>rw[hd] at h;cases h
     | some x=>rw[hd] at h;exact rowsE_same l m m' _ _ rs h
end G
section
open Go.RowKit
def RwP(X7 X8:Nat)(q:PH):Prop:=∃v1 v2,Bd q [PH.one X7 (.cells #[v1] 22),PH.one X8 (.cells #[v2] 23)]
def RwQ(X7 X8:Nat)(a:G.RS×List Nat)(q:PH):Prop:=∃vR mR vr mr,Bd q [PH.one X7 (.cells #[vR] 22),mR,PH.one X8 (.cells #[vr] 23),mr]/\OwnP mR 62 3 vR a.1.rows.length (a.1.rows.flatMap rowC)/\OwnP mr 3 1 vr a.2.length (a.2.flatMap ivC)
def rtG(H X7 X8:Nat)(q q1:G.RS)(x:Nat)(r:List Nat)(vr:Value)(mr:PH)(rest:List PH)(s:Nat)(vals:Nat->Value)(_:PH)(ns:List PH):Prop :=
 match s with
 | 0=>DwP H X7 q (PH.one X8 (.cells #[vr] 23)::mr::rest) ns
 | 1=>DwP H X7 q1 (PH.one X8 (.cells #[vr] 23)::mr::rest) ns
 | 2=>∃XS ns0,vals 6=.slice (some ⟨XS,0,none⟩) 1 1/\DwP H X7 q1 (PH.one X8 (.cells #[vr] 23)::mr::rest) ns0/\ns=PH.one XS (.cells #[nv x] 3)::ns0
 | 3=>∃XS ns0 mr',OwnP mr' 3 1 (vals 7) (r.length+1) (r.flatMap ivC++[nv x])/\DwP H X7 q1 (PH.one X8 (.cells #[vr] 23)::mr'::rest) ns0/\ns=PH.one XS (.cells #[nv x] 3)::ns0
 | _=>∃XS ns0 mr',OwnP mr' 3 1 (vals 7) (r.length+1) (r.flatMap ivC++[nv x])/\DwP H X7 q1 (PH.one X8 (.cells #[vals 7] 23)::mr'::rest) ns0/\ns=PH.one XS (.cells #[nv x] 3)::ns0
section
variable{H X7 X8:Nat} {q q1:G.RS} {x:Nat} {r:List Nat} {vr:Value} {mr:PH} {rest:List PH}
theorem rtG_st(s:Nat)(vals vals':Nat->Value)(J:PH)(ns:List PH)(h:∀j∈[5,6,7,8].take s,vals j=vals' j)(hG:rtG H X7 X8 q q1 x r vr mr rest s vals J ns):rtG H X7 X8 q q1 x r vr mr rest s vals' J ns:=by
 match s,h,hG with
 | 0,h,hG=>exact hG
 | 1,h,hG=>exact hG
 | 2,h,hG =>
   obtain⟨XS,ns0,h1,h2,h3⟩:=hG;exact⟨XS,ns0,by rw[<- h 6 (by simp)];exact h1,h2,h3⟩
 | 3,h,hG =>
   obtain⟨XS,ns0,mr',h1,h2,h3⟩:=hG;exact⟨XS,ns0,mr',by rw[<- h 7 (by simp)];exact h1,h2,h3⟩
 | s+4,h,hG =>
   obtain⟨XS,ns0,mr',h1,h2,h3⟩:=hG;have e:=h 7 (by simp);exact⟨XS,ns0,mr',by rw[<- e];exact h1,by rw[<- e];exact h2,h3⟩
theorem rtG_x8{s:Nat}{vals:Nat->Value}{J:PH}{ns:List PH}(hs:s<=2)(hG:rtG H X7 X8 q q1 x r vr mr rest s vals J ns):PH.one X8 (.cells #[vr] 23)∈ns:=by
 match s,hs,hG with
 | 0,_,hG=>obtain⟨l,clock,vR,mR,_,_,_,rfl⟩:=hG;simp
 | 1,_,hG=>obtain⟨l,clock,vR,mR,_,_,_,rfl⟩:=hG;simp
 | 2,_,hG=>obtain⟨XS,ns0,_,⟨l,clock,vR,mR,_,_,_,rfl⟩,rfl⟩:=hG;simp
 | s+3,h,hG=>omega
end
theorem atBslB{P:Program}{dst:Option Tmp}{type:TypeId}{pos:String}{after:Array Edge}{g:Option (Nat×Bool)}{a:Act}{w:World}{K:Act->World->Prop}{Q:Exit->Act->World->Prop}{T:TypeId}{k:Nat}{parts:Array (Nat×Operand)}(h:Oper.wp P ⟨dst,.buildSlice T k parts,type,pos,after,g⟩ a w K Q):Oper.wp P ⟨dst,.buildSlice T k parts,type,pos,after,g⟩ a w K Q:=h
theorem rows0_ok(H X7:Nat)(ms:List PH):DwP H X7 G.rs0 ms (PH.one H (Qj ikey [⟨0,.int .i64 0,0⟩] 1)::PH.one X7 (.cells #[.slice none 0 0] 22)::Ku::ms) :=
 ⟨_,_,_,Ku,⟨by decide,by decide,by decide⟩,by simp[MtR,G.rs0,nv],OwnP.nil _ _,rfl⟩
theorem rows1_op{D X3 X7 X8:Nat}{J:PH}{Inv:G.Mg->Prop}(hK:KeepsM Inv)(hac:∀m,Inv m->∃rk,G.Acyc m.s.nd rk){l:List Int}{vl:Value}(hl:l.length<=1000000)(h3:J.at X3 0=some vl)(hvl:IntR J vl l)
  (hrows:∀m,Inv m->∀i m' q r,G.rowsE (l.take i) m G.rs0 []=some (m',.ok (q,r))->q.rows.length<4000000) :
  OpC 47 #[vPt X7,vPt X8,vPt X3] D J Inv (λm=>G.rowsE l m G.rs0 []) (λ_=>.tuple #[]) (RwP X7 X8) (RwQ X7 X8) where
 enter:=λargs w=>by kernel_rfl
 run:=by
  intro E I p q0 ms w m m' rs X hJ1 hI hF hX hA hP hS;obtain⟨v1,v2,hbd⟩:=hP;obtain rfl:=G.rowsE_same _ _ _ _ _ _ hF;have hS1:=Sat.unpack hbd (hS.pick 1 rfl);simp only[List.cons_append,List.nil_append,List.eraseIdx_cons_succ,List.eraseIdx_cons_zero] at hS1;obtain⟨I1,l1,lp,hS2,bp⟩:=(hS1.pick 2 rfl).ice;simp only[List.eraseIdx_cons_succ,List.eraseIdx_cons_zero] at hS2;have hM:=hA.read.le lp;have iX:I1.at X 0=some (vPt D):=PH.at_le l1 hX;have i3:I1.at X3 0=some vl:=PH.at_le l1 (PH.at_le hJ1 h3);have hvI:=hvl.le (hJ1.trans l1);obtain⟨⟨A,c,rfl⟩,hrow⟩:=hvI;obtain⟨rk,hrk⟩:=hac _ hI;have HRw:=yH hrow;have HF:=yH hF;have HRows:=yH (hrows _ hI);have HOf:=yH (λk a=>hK.ofl m' k a hI);have HA:=yH hA;have Hbp:=yH bp;clear hS hS1 hbd hJ1 hX h3 hvl hrow hF hrows hK hac hI hA bp;have hS:=hS2;clear hS2 l1 lp;show Calls _ _ #[vPt X,vPt X7,vPt X8,vPt X3] _ _
  have hmf:∀(fn:Fn) (first cap:Array Value) (w:World),(Instr.makeFunc fn first cap).run Tryz.prog w=.ok (.func fn first cap) w:=λ_ _ _ _=>rfl
  go_enter Tryz.func47,Tryz.ntmps47;go_wp2_with (first
   | ((with_reducible refine isMakeMap ?_);refine mkM ikey hS rfl rfl ?_;clear hS;intro H w hS;refine aM ?_)
   | ((with_reducible refine isInsert ?_);refine inNew (x:=0) (l:=[]) hS 0 rfl kI Tryz.underlying100 rfl rfl rfl rfl rfl MapOk.nil rfl ?_;clear hS;intro w hS;(try simp only[zG,Act.eval] at hS);(try simp only[Act.put]))
   | (refine aN 4 ?_;clear hS;intro X4 w hS)|(refine aN 5 ?_;clear hS;intro X5 w hS)|(refine aN 6 ?_;clear hS;intro X6 w hS)|(refine aL ?_)|(refine aS ?_;clear hS;intro w hS))
  obtain⟨I2,l2,m6,hSa,_⟩:=hS.ice;obtain⟨I3,l3,m5,hSb,_⟩:=hSa.ice;obtain⟨I4,l4,m4,hSc,_⟩:=(hSb.pick 1 rfl).ice;simp only[List.eraseIdx_cons_succ,List.eraseIdx_cons_zero] at hSc;have hI4:DwI I4 D X H X7 X4 X5 X6 m':=⟨PH.at_le l4 (PH.at_le m5 (Qb rfl)),PH.at_le m4 (Qb rfl),PH.at_le (l2.trans (l3.trans l4)) iX,PH.at_le (l3.trans l4) (PH.at_le m6 (Qb rfl)),hM.le (l2.trans (l3.trans l4))⟩;have i6:=hI4.i6;have i4:=hI4.i4;have HI4:=yH hI4;have HL4:=yH (l2.trans (l3.trans l4));have k1:=hSc.empty.empty;have k2:=k1.pick 4 rfl;simp only[List.eraseIdx_cons_succ,List.eraseIdx_cons_zero] at k2;have k3:=k2.pick 1 rfl;simp only[List.eraseIdx_cons_succ,List.eraseIdx_cons_zero] at k3;have k4:=k3.pick 4 rfl;simp only[List.eraseIdx_cons_succ,List.eraseIdx_cons_zero] at k4;have k5:=k4.pick 4 rfl;simp only[List.eraseIdx_cons_succ,List.eraseIdx_cons_zero] at k5;clear hS hSa hSb hSc k1 k2 k3 k4 m6 m5 m4 l2 l3 l4 hM iX i3 hI4;have HRw4:=yH (λ(hn:0<l.length)=>(show ∃(X c':Nat),Value.slice A l.length c=Value.slice (some ⟨X,0,none⟩) l.length c'/\∀(i:Nat) x,l[i]?=some x->I4.at X i=some (.int .i64 x) from by
   obtain⟨X,c',h1,h2⟩:=HRw.out hn;exact⟨X,c',h1,λi x hx=>PH.at_le HL4.out (h2 i x hx)⟩))
  generalize hN:l.length=N at *
  have HLn:=yH hN;clear hN HRw;go_loopw [14] (λv14 wr=>∃(i:Nat) (q:G.RS) (r:List Nat) (vr:Value) (mr:PH) (ns:List PH),i<=N/\v14=.int .i64 (i:Int)/\G.rowsE (l.take i) m' G.rs0 []=some (m',.ok (q,r))/\(q.get 0).isSome=true/\(∀j n,q.get j=some n->n<4194303)/\r.length=i/\OwnP mr 3 1 vr r.length (r.flatMap ivC)/\DwP H X7 q (PH.one X8 (.cells #[vr] 23)::mr::ms) ns/\Sat E I4 ns wr) (λv14 _=>(N-intOf v14).toNat)
  case atStart=>exact⟨0,G.rs0,[],_,_,_,jC _,rfl,rfl,rfl,λj n h=>by
   have:n=0:=by
    unfold G.RS.get G.rs0 at h;by_cases e:(0:Nat)=j
    . subst e;simpa using h.symm
    . rw[jX (by simpa using e)] at h;cases h
   omega,rfl,OwnP.nil _ _,rows0_ok _ _ _,k5⟩
  case round =>
   clear k5;obtain⟨i,q,r,vr,mr,ns,hi,rfl,hpre,h0,hb,hrl,hO,hP,hS⟩:=hrel;by_cases hlt:i<N
   . obtain⟨k,hk⟩:∃k,l[i]?=some k:=⟨_,yA (by rw[HLn.out];exact hlt)⟩
     obtain⟨Y,c',hY,hcell⟩:=HRw4.out (by omega);injection hY with hA1 hB1 hC1
     subst hA1 hC1;have hcell:=hcell i _ hk;have iN:(i:Int)<(N:Int):=by omega
     have hsplit:l.take i++l.drop i=l:=kGa i l;have hdr:l.drop i=k::l.drop (i+1):=by
      rw[jL (by rw[HLn.out];exact hlt)];congr 1
      have:=yA (l:=l) (i:=i) (by rw[HLn.out];exact hlt);rw[hk] at this;injection this with this
      exact this.symm
     have htk:l.take (i+1)=l.take i++[k]:=by rw[jR,hk];rfl
     have hf:=HF.out;rw[<- hsplit,G.rowsE_append,hpre] at hf;simp only at hf;rw[hdr,G.rowsE_cons] at hf;cases hok:m'.of k with
     | none =>
       have he:rs=.stop (.err 8):=by
        unfold G.Mg.edge at hf;rw[hok] at hf;cases hf;rfl
       subst he;have HEb:=yH (λ(w:World) (hX:(Qa w).at X 0=some (vPt D)) (hM:MgR (Qa w) D m')=>xedge_no hX hM k hok);have HP:=yH hP;clear hf hok hsplit hdr htk hpre h0 hb hO hP hk HF HRows;go_wp2_with (first|(refine aL ?_))
       refine Kf (λc w'=>c=stopE (.err 8)/\Sat E I4 ns w') [[],[],[],[],[2,3],[1,2,3,4],[1,2,3,4,5],[0,1,2,3,4,5,6],[0,1,2,3,4,5,6,7]] E I4 _
        [λ_ _=>True,λv _=>v=.func (.func 48) #[] #[vPt X5,vPt X4,vPt X6,vPt X7],λv _=>v=vPt X,λv _=>v=.int .i64 k,λ_ _=>False,λ_ _=>True,λ_ _=>True,λ_ _=>True,λ_ _=>True] []
        (λ_ _ _ bs=>bs=ns) (by kernel_rfl) (by kernel_rfl) (by decide) hS rfl ?last (λ_ _ _ _ _ _ h=>h) (λ_ _ _ _ _ _ h=>h) ?plain ?step ?hZ ?fin
       case last=>exact bL
       case plain =>
        clear hS;refine⟨⟨⟨⟨⟨⟨⟨⟨⟨trivial,?p0⟩,?p1⟩,?p2⟩,?p3⟩,?p4⟩,?p5⟩,?p6⟩,?p7⟩,?p8⟩
        case p0=>refine .inr ?_;intro s vals J bs w hstop hg hJ hS hG;have hX8:PH.one X8 (.cells #[vr] 23)∈bs:=(by have hG:bs=ns:=hG;obtain⟨lq,cq,vRq,mRq,_,_,_,hns⟩:=HP.out;rw[hG,hns];simp);clear hG;simp only[zI,Given,Facts] at hg;simp only[Qc,Qo,Qd,zI];refine bV ?_;intro K HK;((with_reducible refine atLoad ?_);(refine' wp_ld1 (v:=vr) (hS.own _ hX8) rfl ?ha rfl ?hc ?_);(case ha=>exact ty_agg23);(case hc=>exact Qb rfl));refine HK.out _ _ ⟨rfl,J,PH.le.refl _,hS,trivial⟩
        case p4=>refine .inr ?_;intro s vals J bs w hstop hg hJ hS hG;have hG:bs=ns:=hG;subst hG;refine bZ ?_;intro K HK;go_wp2_with (go_at_call 55;with_reducible refine bC (HEb.out _ (PH.at_le hS.ile (PH.at_le hJ HI4.out.iX)) (HI4.out.hM.le (hJ.trans hS.ile))) ?_);exact And.intro rfl (hS.less hJ)
        all_goals first|(refine .inr ?_;intro s vals J bs w hstop hg hJ hS hG;exfalso;simp only[zH,zI,Given,Facts,and_false,false_and] at hg;done)|(refine .inr ?_;intro s vals J bs w hstop hg hJ hS hG;clear hG;simp only[zH,zI,Given,Facts] at hg;simp only[Qc,Qo,Qi,Qd,zH,zI,zA,zB,zK,jEb,Act.put,zE,zF,zG];refine bV ?_;intro K HK;(first|(refine bJ ?_)|(go_wp2_with (fail)));exact bO)
       case step=>trivial
       case hZ =>
        rintro c b w' hd ⟨rfl,hS'⟩;obtain⟨lq,cq,vRq,mRq,_,_,_,rfl⟩:=HP.out;obtain⟨q',hb',hS2⟩:=Sat.pack [PH.one X7 (.cells #[vRq] 22),PH.one X8 (.cells #[vr] 23)] ((hS'.sub (.cons _ (.cons_cons _ (.cons _ (.cons_cons _ (.cons _ (kBb _))))))));exact⟨hd,rfl,p,q',HA.out,⟨vRq,vr,hb'⟩,Hbp.out _ _ (hS2.less HL4.out)⟩
       case fin =>
        intro vals J9 bs w hJ hg hS hG;exact False.elim (by simp only[yB,yC,Nat.reduceAdd,Below_,Facts,zH,zI,kS,kJb] at hg;simp at hg)
     | some f =>
       unfold G.Mg.edge at hf;rw[hok] at hf;simp only[G.Step.then] at hf;cases hd:G.downR G.fuel m'.s q f with
       | none=>rw[hd] at hf;cases hf
       | some y =>
         obtain⟨q1,x⟩:=y;rw[hd] at hf;simp only at hf;have hpre':G.rowsE (l.take (i+1)) m' G.rs0 []=some (m',.ok (q1,r++[x])):=by
          rw[htk,G.rowsE_append,hpre];simp only;rw[G.rowsE_cons];unfold G.Mg.edge;rw[hok];simp only[G.Step.then];rw[hd];rfl
         have hlen:=HRows.out _ _ _ _ hpre';obtain⟨_,a2,a3,a4⟩:=G.down_keys hrk _ _ _ _ _ h0 hd;have h0':(q1.get 0).isSome=true:=by
          obtain⟨z,hz⟩:=yF.1 h0;rw[a2 _ _ hz];rfl
         have hb':∀j n,q1.get j=some n->n<4194303:=λj n hj=>by
          rcases a4 j n hj with h|h
          . exact hb j n h
          . omega
         have HE:=yH (λ(w:World) (hX:(Qa w).at X 0=some (vPt D)) (hM:MgR (Qa w) D m')=>xedge_ok hX hM k hok);have HDn:=yH (λ(J:PH) (ns:List PH) (w:World) (hJ:I4.le J) (hP:DwP H X7 q (PH.one X8 (.cells #[vr] 23)::mr::ms) ns) (h:Sat E J ns w)=>ddown_any hrk G.fuel J q q1 f x (HI4.out.le hJ) hd h0 hb hlen (HOf.out _ _ hok) E _ ns w hP h);have HN:=yH (And.intro hpre' (And.intro h0' hb'));have HO:=yH hO;have HP:=yH hP;have hrl2:r.length+1<=1000000:=by omega
         clear hf hok hsplit hdr htk hpre h0 hb hO hP hk hpre' h0' hb' a2 a3 a4 hd hlen;go_wp2_with (first|(refine aL ?_))
         refine Kf (λ_ _=>False) [[],[],[],[],[2,3],[1,2,3,4],[1,2,3,4,5],[0,1,2,3,4,5,6],[0,1,2,3,4,5,6,7]] E I4 _
          [λv _=>v=vr,λv _=>v=.func (.func 48) #[] #[vPt X5,vPt X4,vPt X6,vPt X7],λv _=>v=vPt X,λv _=>v=.int .i64 k,λv _=>v=nv f,λv _=>v=nv x,λ_ _=>True,λ_ _=>True,λ_ _=>True] [5,6,7,8]
          (rtG H X7 X8 q q1 x r vr mr ms) (by kernel_rfl) (by kernel_rfl) (by decide) hS HP.out ?last rtG_st (λ_ _ _ _ _ _ h=>h) ?plain ?step ?hZ ?fin
         case last=>exact bL
         case hZ=>exact λ_ _ _ _ h=>h.elim
         case plain =>
          clear hS;refine⟨⟨⟨⟨⟨⟨⟨⟨⟨trivial,?r0⟩,?r1⟩,?r2⟩,?r3⟩,?r4⟩,.inl rfl⟩,.inl rfl⟩,.inl rfl⟩,.inl rfl⟩
          case r0 =>
           refine .inr ?_;intro s vals J bs w hstop hg hJ hS hG;have hX8:=rtG_x8 (jFb hstop (by decide)) hG;clear hG;simp only[zI,Given,Facts] at hg;simp only[Qc,Qo,Qd,zI];refine bV ?_;intro K HK
           (with_reducible refine atLoad ?_)
           refine' wp_ld1 (v:=vr) (hS.own _ hX8) rfl ty_agg23 rfl (Qb rfl) ?_;exact HK.out _ _ ⟨rfl,J,PH.le.refl _,hS,rfl⟩
          all_goals (refine .inr ?_;intro s vals J bs w hstop hg hJ hS hG;clear hG;refine bZ ?_;intro K HK;(first|(refine bJ ?_)|(go_wp2_with (first|(go_at_call 55;with_reducible refine bC (HE.out _ (PH.at_le hS.ile (PH.at_le hJ HI4.out.iX)) (HI4.out.hM.le (hJ.trans hS.ile))) ?_))));exact bO)
         case step =>
          clear hS;refine⟨⟨⟨⟨trivial,?s0⟩,?s1⟩,?s2⟩,?s3⟩
          case s0 =>
           intro vals J bs w hg hJ hS hG;have HG:=yH (show DwP H X7 q (PH.one X8 (.cells #[vr] 23)::mr::ms) bs from hG);clear hG;refine bZ ?_;intro K HK;go_wp2_with (first|(go_at_call 48;(with_reducible refine bD (HDn.out _ _ _ hJ HG.out hS) ?_);clear hS;intro w ns1 HP1 hS))
           exact HK.out _ _ ⟨rfl,J,_,PH.le.refl _,hS,rfl,HP1.out⟩
          case s1 =>
           intro vals J bs w hg hJ hS hG;have HG:=yH (show DwP H X7 q1 (PH.one X8 (.cells #[vr] 23)::mr::ms) bs from hG);clear hG;refine bZ ?_;intro K HK;refine wp_bsl (cs := #[nv x]) (e:=3) hS (λw0=>by go_simp) λXS w' hS'=>?_
           exact HK.out _ _ ⟨rfl,J,_,PH.le.refl _,hS',trivial,XS,bs,rfl,HG.out,rfl⟩
          case s2 =>
           intro vals J bs w hg hJ hS hG;obtain⟨XS,ns0,e6,⟨lq,cq,vRq,mRq,g1,g2,g3,rfl⟩,rfl⟩:=hG;simp only[zH,zI,Given,Facts] at hg;simp only[Qc,Qo,Qi,Qd,zH,zI,zA,zB,zK,jEb,Act.put,zE,zF,zG,hg,e6];refine bV ?_;intro K HK;refine wp_apP (p:=PH.one XS (.cells #[nv x] 3)) (m:=mr) (v:=vr) (n:=r.length) (xs:=r.flatMap ivC) (news:=[nv x]) hS 5 rfl (.inr (.head _)) rfl Tryz.underlying23 Ko rfl (by decide) rfl HO.out rfl rfl (Cells.one _ _ _ _) rfl (by unfold maxLen;omega) (by omega) λv' m' w' hO' hS'=>?_
           exact HK.out _ _ ⟨rfl,J,_,PH.le.refl _,hS',trivial,XS,_,m',hO',⟨lq,cq,vRq,mRq,g1,g2,g3,rfl⟩,rfl⟩
          case s3 =>
           intro vals J bs w hg hJ hS hG;obtain⟨XS,ns0,mr',g0,⟨lq,cq,vRq,mRq,g1,g2,g3,rfl⟩,rfl⟩:=hG;obtain⟨A7,c7,e7,_⟩:=OwnP.shape g0;simp only[zH,zI,Given,Facts] at hg;simp only[Qc,Qo,Qi,Qd,zH,zI,zA,zB,zK,jEb,Act.put,zE,zF,zG,hg,e7];refine bV ?_;intro K HK;refine wp_st1 hS 4 rfl rfl rfl rfl ty_sz23 rfl rfl (by simp) λw' hS'=>?_
           refine HK.out _ _ ⟨rfl,J,_,PH.le.refl _,hS',trivial,XS,_,mr',g0,⟨lq,cq,vRq,mRq,g1,g2,g3,?_⟩,rfl⟩;rw[show upd vals 8 _ 7=vals 7 from rfl,e7];rfl
         case fin =>
          intro vals J9 bs w hJ hg hS hG;obtain⟨XS,ns0,mr',g0,HP2,rfl⟩:=hG;have HP2:=yH HP2;have g0:=yH g0;have hS:=(hS.less hJ).drop;clear hJ HDn HP HO HE;refine bH ?_;clear hg;go_wp2_with (fail)
          exact⟨⟨i+1,q1,r++[x],vals 7,mr',ns0,by omega,by go_num,HN.out.1,HN.out.2.1,HN.out.2.2,by rw[yG,hrl];rfl,by rw[yG,jNb];exact g0.out,HP2.out,hS⟩,by simp[intOf];omega⟩
   . obtain rfl:i=N:=by omega
     have e:l.take i=l:=jK (by rw[HLn.out];exact jBb _);rw[e] at hpre;have hf:=HF.out;rw[hpre] at hf;obtain rfl:rs=.ok (q,r):=by injection hf with h;injection h with h1 h2;exact h2.symm
     obtain⟨lq,cq,vR,mR,_,_,hO2,rfl⟩:=hP;have HO2:=yH hO2;have HO:=yH hO;clear hO2 hO hf hpre e HF HRows HRw4 HI4 HOf h0 hb hrl i6 i4;go_wp2_with fail
     go_end0
     obtain⟨q',hb',hS2⟩:=Sat.pack [PH.one X7 (.cells #[vR] 22),mR,PH.one X8 (.cells #[vr] 23),mr] hS.drop;exact⟨rfl,p,q',HA.out,⟨vR,mR,vr,mr,hb',HO2.out,HO.out⟩,Hbp.out _ _ (hS2.less HL4.out)⟩
end
namespace G
theorem rowsE_stop:∀(l:List Int) (m m':Mg) (q:RS) (r:List Nat) (s:Stop),rowsE l m q r=some (m',.stop s)->s=.err 8
 | [],m,m',q,r,s,h=>by cases h
 | k::l,m,m',q,r,s,h=>by
   rw[rowsE_cons] at h;unfold Mg.edge at h;cases hk:m.of k with
   | none=>rw[hk] at h;cases h;rfl
   | some f =>
     rw[hk] at h;simp only[Step.then] at h;cases hd:downR fuel m.s q f with
     | none=>rw[hd] at h;cases h
     | some x=>rw[hd] at h;exact rowsE_stop l m m' _ _ s h
theorem rowsM_cases{m m':Mg}{l:List Int}{res:(RS×List Nat) ⊕ Nat}(h:m.rowsM l=some (m',res)):m'=m/\((∃q r,res=.inl (q,r)/\rowsE l m rs0 []=some (m,.ok (q,r)))\/res=.inr 8):=by
 unfold Mg.rowsM Mg.look at h;rw[show fuel=2097151+1 from rfl,run_succ] at h;cases hr:rowsE l m rs0 [] with
 | none=>rw[hr] at h;cases h
 | some x =>
   obtain⟨m1,rs⟩:=x;obtain rfl:=rowsE_same _ _ _ _ _ _ hr;rw[hr] at h;cases rs with
   | ok a=>cases h;exact⟨rfl,.inl ⟨_,_,rfl,rfl⟩⟩
   | stop s =>
     obtain rfl:=rowsE_stop _ _ _ _ _ _ hr;simp only[] at h;cases h;exact⟨rfl,.inr rfl⟩
end G
section
open Go.RowKit
theorem mlook_any{α:Type}{fid D:Nat}{cs:Array Value}{J0:PH}{Inv:G.Mg->Prop}{F:G.Mg->G.Step α}{P:PH->Prop}{Q:α->PH->Prop}(hop:OpC fid cs D J0 Inv F (λ_=>.tuple #[]) P Q)(hK:KeepsM Inv)(hstep:∀m m' rs,Inv m->F m=some (m',rs)->Inv m')
  {E w:World}{I p q:PH}{ms:List PH}{m m':G.Mg}{res:α ⊕ Nat}(hJ0:J0.le I)(hI:Inv m)(hm:m.look F=some (m',res))(hA:MgAt D m p)(hq:P q)(hS:Sat E I (p::q::ms) w) :
  Calls Tryz.prog 46 #[vPt D,.func (.func fid) #[] cs] w λe w'=>e=.returned (runE res)/\∃p' q',MgAt D m' p'/\sideR P Q res q'/\Sat E I (p'::q'::ms) w':=by
 have hnf:∀W:World,(binOp .eql 110 (.func (.func fid) #[] cs) .nilFunc).run Tryz.prog W=.ok (.bool false) W:=λ_=>by kernel_rfl
 have HR:=yH (mrun_any hop hK hstep hJ0 hI hm hA hq hS);clear hop hK hstep hJ0 hI hm hA hq;go_enter Tryz.func46,Tryz.ntmps46;go_wp2_with (first|(go_at_call 92;(with_reducible refine yI HR.out ?_);clear hS;rintro e w ⟨rfl,p1,q1,hA1,hQ1,hS⟩;have HA1:=yH hA1;have HQ1:=yH hQ1;clear hA1 hQ1))
 go_ret;exact⟨rfl,p1,q1,HA1.out,HQ1.out,hS⟩
def rowsOut:(G.RS×List Nat) ⊕ Nat->List G.Rw3×List Nat×Nat
 | .inl (q,r)=>if 4096<q.rows.length then ([],[],18) else (q.rows,r,0)
 | .inr e=>([],[],e)
def RowsR(o:List G.Rw3×List Nat×Nat)(e:Ending)(ns:List PH):Prop:=∃vR vr mR mr,e=.returned (.tuple #[vR,vr,nv o.2.2])/\ns=[mR,mr]/\OwnP mR 62 3 vR o.1.length (o.1.flatMap rowC)/\OwnP mr 3 1 vr o.2.1.length (o.2.1.flatMap ivC)
theorem drows_any{D:Nat}{Inv:G.Mg->Prop}(hK:KeepsM Inv)(hac:∀m,Inv m->∃rk,G.Acyc m.s.nd rk){l:List Int}{vl:Value}(hl:l.length<=1000000)
  (hrows:∀m,Inv m->∀i m' q r,G.rowsE (l.take i) m G.rs0 []=some (m',.ok (q,r))->q.rows.length<4000000)
  {E w:World}{I p:PH}{ms:List PH}{m m':G.Mg}{res:(G.RS×List Nat) ⊕ Nat}(hvl:IntR I vl l)(hI:Inv m)(hm:m.rowsM l=some (m',res))(hA:MgAt D m p)(hS:Sat E I (p::ms) w) :
  Calls Tryz.prog 16 #[vPt D,vl] w λe w'=>∃p' ns,RowsR (rowsOut res) e ns/\MgAt D m' p'/\Sat E I (p'::ns++ms) w':=by
 have hstep:∀m m' rs,Inv m->G.rowsE l m G.rs0 []=some (m',rs)->Inv m':=λm m' rs hI h=>by rw[G.rowsE_same _ _ _ _ _ _ h];exact hI
 have HR:Hid (∀(w:World) (X3 X7 X8:Nat),Sat E I (PH.one X8 (.cells #[.slice none 0 0] 23)::PH.one X7 (.cells #[.slice none 0 0] 22)::PH.one X3 (.cells #[vl] 23)::p::ms) w ->
   Calls Tryz.prog 46 #[vPt D,.func (.func 47) #[] #[vPt X7,vPt X8,vPt X3]] w λe w'=>e=.returned (runE res)/\∃p1 q1,MgAt D m' p1/\sideR (RwP X7 X8) (RwQ X7 X8) res q1/\Sat E I (p1::q1::ms) w'):=by
  refine yH λw X3 X7 X8 h=>?_
  obtain⟨J,lJ,mJ,h2,back⟩:=(h.pick 2 rfl).ice;simp only[List.eraseIdx_cons_succ,List.eraseIdx_cons_zero] at h2;obtain⟨q',hb,h3⟩:=Sat.pack [PH.one X7 (.cells #[.slice none 0 0] 22),PH.one X8 (.cells #[.slice none 0 0] 23)] (h2.perm (List.Perm.swap _ _ _));have i3:J.at X3 0=some vl:=PH.at_le mJ (Qb rfl);refine (mlook_any (rows1_op (X7:=X7) (X8:=X8) hK hac hl i3 (hvl.le lJ) hrows) hK hstep (PH.le.refl J) hI hm hA ⟨_,_,hb⟩ (h3.perm (List.Perm.swap _ _ _))).mono ?_;rintro e w' ⟨rfl,p1,q1,hA1,hQ1,h4⟩;exact⟨rfl,p1,q1,hA1,hQ1,(back _ _ h4).drop⟩
 have hmf:∀(fn:Fn) (first cap:Array Value) (w:World),(Instr.makeFunc fn first cap).run Tryz.prog w=.ok (.func fn first cap) w:=λ_ _ _ _=>rfl
 obtain⟨rfl,hc⟩:=G.rowsM_cases hm;obtain⟨⟨A,c,rfl⟩,hrow⟩:=hvl;have hlen:=λq r (h:G.rowsE l m' G.rs0 []=some (m',.ok (q,r)))=>hrows _ hI l.length _ q r (by rw[kDa];exact h)
 clear hK hac hrows hstep hI hm hA hrow;rcases hc with⟨q,r,rfl,hE⟩|rfl
 . have hq:=hlen q r hE
   clear hlen hE;simp only[runE,sideR] at HR;by_cases h40:4096<q.rows.length
   . have e:rowsOut (.inl (q,r))=([],[],18):=jAb h40
     rw[e];have d1:decide ((q.rows.length:Int)>4096)=true:=by simp;omega
     go_enter Tryz.func16,Tryz.ntmps16;go_wp2_with (first|(go_at_call 46;(with_reducible refine yI (HR.out _ _ _ _ hS) ?_);clear hS;rintro e w ⟨rfl,p1,q1,hA1,hQ1,hS⟩;have HA1:=yH hA1;obtain⟨vR,mR,vr,mr,hb,hO1,hO2⟩:=hQ1;obtain⟨A1,c1,rfl,_⟩:=OwnP.shape hO1;obtain⟨A2,c2,rfl,_⟩:=OwnP.shape hO2;have hS2:=Sat.unpack hb (hS.pick 1 rfl);clear hS hb hA1;have hS:=hS2;clear hS2;simp only[List.eraseIdx_cons_succ,List.eraseIdx_cons_zero,List.cons_append,List.nil_append] at hS;have HO1:=yH hO1;have HO2:=yH hO2;clear hO1 hO2)|(refine aN 3 ?_;clear hS;intro X3 w hS)|(refine aN 7 ?_;clear hS;intro X7 w hS)|(refine aN 8 ?_;clear hS;intro X8 w hS)|(refine aL ?_))
     go_ret3;exact⟨p1,_,⟨_,_,Ku,Ku,rfl,rfl,OwnP.nil _ _,OwnP.nil _ _⟩,HA1.out,(((hS.drop.drop.drop.drop).empty.empty).pick 2 rfl)⟩
   . have e:rowsOut (.inl (q,r))=(q.rows,r,0):=jAa h40
     rw[e];have d1:decide ((q.rows.length:Int)>4096)=false:=by simp;omega
     go_enter Tryz.func16,Tryz.ntmps16;go_wp2_with (first|(go_at_call 46;(with_reducible refine yI (HR.out _ _ _ _ hS) ?_);clear hS;rintro e w ⟨rfl,p1,q1,hA1,hQ1,hS⟩;have HA1:=yH hA1;obtain⟨vR,mR,vr,mr,hb,hO1,hO2⟩:=hQ1;obtain⟨A1,c1,rfl,_⟩:=OwnP.shape hO1;obtain⟨A2,c2,rfl,_⟩:=OwnP.shape hO2;have hS2:=Sat.unpack hb (hS.pick 1 rfl);clear hS hb hA1;have hS:=hS2;clear hS2;simp only[List.eraseIdx_cons_succ,List.eraseIdx_cons_zero,List.cons_append,List.nil_append] at hS;have HO1:=yH hO1;have HO2:=yH hO2;clear hO1 hO2)|(refine aN 3 ?_;clear hS;intro X3 w hS)|(refine aN 7 ?_;clear hS;intro X7 w hS)|(refine aN 8 ?_;clear hS;intro X8 w hS)|(refine aL ?_))
     have x7:w.cell? ⟨X7,0,none⟩=some (.slice A1 q.rows.length c1):=Ql (hS.mle (k:=0) rfl) (Qb rfl);have x8:w.cell? ⟨X8,0,none⟩=some (.slice A2 r.length c2):=Ql (hS.mle (k:=2) rfl) (Qb rfl);go_quiet (fail)
     replace hS:=hS.drewN nq;clear x7 x8;go_wp2_with fail
     go_ret3;exact⟨p1,_,⟨_,_,mR,mr,rfl,rfl,HO1.out,HO2.out⟩,HA1.out,((hS.sub (.cons _ (.cons_cons _ (.cons _ (kBb _))))).pick 2 rfl)⟩
 . clear hlen
   simp only[runE] at HR;go_enter Tryz.func16,Tryz.ntmps16;go_wp2_with (first|(go_at_call 46;(with_reducible refine yI (HR.out _ _ _ _ hS) ?_);clear hS;rintro e w ⟨rfl,p1,q1,hA1,hQ1,hS⟩;have HA1:=yH hA1;clear hA1 hQ1)|(refine aN 3 ?_;clear hS;intro X3 w hS)|(refine aN 7 ?_;clear hS;intro X7 w hS)|(refine aN 8 ?_;clear hS;intro X8 w hS))
   go_ret3;exact⟨p1,_,⟨_,_,Ku,Ku,rfl,rfl,OwnP.nil _ _,OwnP.nil _ _⟩,HA1.out,(((hS.pick 1 rfl).drop).empty.empty).pick 2 rfl⟩
end
section
open Go.RowKit
theorem isBuildSliceD{P:Program}{a:Act}{w:World}{Q:Exit->Act->World->Prop}{ops:Array Oper}{rest:List Oper}{type:TypeId}{pos:String}{after:Array Edge}(d:Nat){T:TypeId}{n:Nat}{parts:Array (Nat×Operand)}
 (h:wpList P ops Q (⟨some d,.buildSlice T n parts,type,pos,after,none⟩::rest) a w):wpList P ops Q (⟨some d,.buildSlice T n parts,type,pos,after,none⟩::rest) a w:=h
theorem lget_any{w:World}{X5:Nat}{vr:Value}{ns:List Nat}(h5:(Qa w).at X5 0=some vr)(hO:NumR (Qa w) vr ns)(e:Nat)(he:e/2<ns.length)(hl:ns.length<=4000000)(hlt:∀x∈ns,x<4611686018427387904) :
  Calls Tryz.prog 62 #[nv e,vPt X5] w λe' w'=>e'=.returned (nv (G.flipIf (ns.getD (e/2) 0) (e%2==1)))/\w=w':=by
 obtain⟨x,hx⟩:∃x,ns[e/2]?=some x:=⟨_,yA he⟩;have hg:ns.getD (e/2) 0=x:=by rw[yD,hx];rfl
 have hxl:=hlt x (jCb hx);rw[hg];obtain⟨Y,c,rfl,hc⟩:=hO.2 (by omega);have hcell:=hc _ _ hx;have HF:=yH (λ(b:Bool)=>Zn (w:=w) x b hxl);have hb:(((e:Int)%2)==1)=(e%2==1):=by rw[kRb];simp only[jRb];omega
 have hS:=Sat.start w;go_enter Tryz.func62,Tryz.ntmps62;go_wp2_with (first|(go_at_call 50;with_reducible refine bC (HF.out _) ?_)|(refine aL ?_))
 go_ret;exact⟨by rw[<- hb];rfl,rfl⟩
end
end Go.Proofs.YtidamcdklgfogaaGreat
