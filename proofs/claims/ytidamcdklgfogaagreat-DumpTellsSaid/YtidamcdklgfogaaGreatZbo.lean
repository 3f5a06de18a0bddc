import Derived.Test.YtidamcdklgfogaaGreatZab
import Derived.Test.YtidamcdklgfogaaGreatZbn
import Derived.Test.YtidamcdklgfogaaGreatZbg
set_option linter.unusedSimpArgs false
set_option linter.unusedVariables false
namespace Go.Proofs.YtidamcdklgfogaaGreat
section
open Go.RowKit
theorem G.StOk.saneD {B:Nat} {s:G.St} (h:G.StOk B s):Sane s:=⟨h.pl,fun v=>h.tab_lt v⟩
theorem G.StOk.swap_lenD {B:Nat} {s:G.St} (h:G.StOk B s) (hr:G.many s.pl.slots≤1000000):∀ s0 c,s.collect=some (s0,c)→∀ v,(s0.tab v).length≤1000000:=fun s0 c hc v=>by
 obtain ⟨s1,h1,h2⟩:=h.collect
 rw [h1] at hc
 cases hc
 have h3:=h2.ok.tab_len v
 have h4:=h2.many
 omega
structure InvS (S:G.Sem) (n c:Nat) (Φ:Int→Option G.Fn) (H:List (Int × Nat)) (r:Nat) (m:G.Mg):Prop where
 ok:G.Snd S n c m
 fn:m.fn=Φ
 hs:m.hs=H
 room:m.s.pl.room=r
theorem InvS.of {S:G.Sem} {n c:Nat} {m:G.Mg} (h:G.Snd S n c m):InvS S n c m.fn m.hs m.s.pl.room m:=⟨h,rfl,rfl,rfl⟩
section
variable {S:G.Sem} {n c r:Nat} {Φ:Int→Option G.Fn} {H:List (Int × Nat)} {m m':G.Mg}
theorem InvS.stay (h:InvS S n c Φ H r m) (h1:G.Snd S n c m') (h2:G.Stay m m'):InvS S n c Φ H r m':=⟨h1,h2.fn.trans h.fn,h2.hs.trans h.hs,h2.room.trans h.room⟩
theorem Snd.of_lt (h:G.Snd S n c m) {k:Int} {a:Nat} (hk:m.of k=some a):a<4194304:=by
 obtain ⟨_,_,h3⟩:=h.keys _ (G.of_mem hk)
 exact h.ok.val_lt h3
theorem Snd.hs_lt (h:G.Snd S n c m):∀ q ∈ m.hs,q.2<4611686018427387904:=fun q hq=>by
 obtain ⟨_,_,h3⟩:=h.keys _ hq
 have:=h.ok.val_lt h3
 omega
theorem Snd.new_none (h:G.Snd S n c m):m.of (m.next:Int)=none:=by
 cases hk:m.of (m.next:Int) with
 | none=>rfl
 | some a =>
   obtain ⟨_,h2,_⟩:=h.keys _ (G.of_mem hk)
   simp only at h2
   omega
theorem Snd.clear (h:G.Snd S n c m):G.Snd S n c { m with me:=G.Memo.none }:=⟨h.ok,G.MeOk.none _ _,h.vars,h.keys,h.nodup,h.refs,h.c0,h.c1,h.ev,h.next⟩
theorem InvS.keeps (hH:H.length<1152921504606846976) (hr:r≤900000):KeepsM (InvS S n c Φ H r) where
 sane:=fun m h=>h.ok.ok.saneD
 pm:=fun m h=>h.ok.ok.pm
 len:=fun m h=>h.ok.ok.swap_lenD (by
  have h1:=h.ok.ok.pl.len
  have h2:=G.many_le m.s.pl.slots
  have h3:=h.room
  omega)
 new:=fun m h=>Snd.new_none h.ok
 ofl:=fun m k a h hk=>by have:=Snd.of_lt h.ok hk;omega
 clear:=fun m h=>⟨Snd.clear h.ok,h.fn,h.hs,h.room⟩
 coll:=fun m s k h hc=>by
  obtain ⟨m',k',h1,h2,h3,_⟩:=h.ok.collect
  unfold G.Mg.collect at h1
  rw [hc] at h1
  cases h1
  exact h.stay h2 h3
 swap:=fun m s l e h hc=>by
  by_cases hb:l<0∨l≥(m.s.vars.length:Int) - 1
  · rw [G.swap_bad hb] at hc
    cases hc
    exact ⟨Snd.clear h.ok,h.fn,h.hs,h.room⟩
  · have hv:=h.ok.vars
    obtain ⟨k,rfl⟩:∃ k:Nat,l=(k:Int):=⟨l.toNat,by omega⟩
    obtain ⟨s',e',h1,h2,h3,_⟩:=h.ok.swap (by rw [h.hs];exact hH) (k:=k) (by omega)
    rw [hc] at h1
    cases h1
    exact h.stay h2 h3
theorem InvS.step {α:Type} {K:Nat} {F:G.Mg→G.Step α} {R:G.Mg→α ⊕ Nat→Prop} (hF:∀ m,InvS S n c Φ H r m→G.Runs S H.length K m (F m) R):∀ m m' rs,InvS S n c Φ H r m→F m=some (m',rs)→InvS S n c Φ H r m'∧G.Ends K m m' R rs:=fun m m' rs h he=>by
 obtain ⟨m2,rs2,h1,h2,h3⟩:=hF m h
 rw [he] at h1
 cases h1
 rw [← h.hs] at h2
 have hw:∀ e ∈ m'.waits,e ∈ m.waits:=fun e hm=>by
  cases rs with
  | ok a=>rw [h3.1] at hm;exact hm
  | stop st =>
    cases st with
    | event ev =>
      have h3:m.waits=ev::m'.waits:=h3
      rw [h3];exact .tail _ hm
    | err er=>rw [h3.1] at hm;exact hm
 obtain ⟨h4,h5⟩:=h.ok.grew h2 hw
 exact ⟨⟨h4,h5.trans h.fn,h2.hs.trans h.hs,h2.gro.room.trans h.room⟩,h3⟩
theorem InvS.doOk {K:Nat} {F:G.Mg→G.Step Nat} {R:G.Mg→Nat ⊕ Nat→Prop} (hF:∀ m,InvS S n c Φ H r m→G.Runs S H.length K m (F m) R) (hv:∀ m r,R m (.inl r)→G.val m.s.nd r) (h0:∀ m,¬ R m (.inr 0)):DoOk (InvS S n c Φ H r) F where
 step:=fun m m' rs h he=>(InvS.step hF m m' rs h he).1
 lt:=fun m m' f h he=>by
  obtain ⟨h1,h2⟩:=InvS.step hF m m' _ h he
  have:=h1.ok.ok.val_lt (hv _ _ h2.2)
  omega
 ne:=fun m m' h he=>by
  obtain ⟨h1,h2⟩:=InvS.step hF m m' _ h he
  rcases h2.2 with ⟨h3,_⟩|⟨_,h3⟩
  · cases h3
  · exact h0 _ h3
end
end
namespace G
def foldE (F:Mg→Nat→Nat→Step Nat):List Int→Mg→Nat→Step Nat
 | [],m,r=>some (m,.ok r)
 | h::l,m,r=>(m.edge h).then fun m e=>(F m r e).then fun m r=>foldE F l m r
def andE (m:Mg) (a b:Nat):Step Nat:=m.ite fuel a b 1
def Mg.andM (m:Mg) (l:List Int):Option (Mg × Nat × Nat):=m.do_ fun m=>foldE andE l m 0
structure Rw3 where
 v:Int
 lo:Int
 hi:Int
 deriving DecidableEq
structure RS where
 rows:List Rw3
 at_:List (Nat × Nat)
def RS.get (q:RS) (i:Nat):Option Nat:=(q.at_.find? fun p=>p.1 == i).map (·.2)
def downR:Nat→St→RS→Nat→Option (RS × Nat)
 | 0,_,_,_=>none
 | k+1,s,q,f =>
   match q.get (f / 2) with
   | some n=>some (q,edge n (f % 2 == 1))
   | none =>
     let p:=flipIf f (f % 2 == 1)
     let v:=(s.topE [p]).1
     (downR k s q (s.splitI p v).1).bind fun (q,lo) =>
     (downR k s q (s.splitI p v).2).bind fun (q,hi) =>
     some (⟨q.rows ++ [⟨v,lo,hi⟩],q.at_ ++ [(f / 2,q.rows.length+1)]⟩,edge (q.rows.length+1) (f % 2 == 1))
def rowsE:List Int→Mg→RS→List Nat→Step (RS × List Nat)
 | [],m,q,r=>some (m,.ok (q,r))
 | h::l,m,q,r=>(m.edge h).then fun m e=>match downR fuel m.s q e with|none=>none|some (q,x)=>rowsE l m q (r ++ [x])
def rs0:RS:=⟨[],[(0,0)]⟩
def Mg.rowsM (m:Mg) (l:List Int):Option (Mg × ((RS × List Nat) ⊕ Nat)):=m.look fun m=>rowsE l m rs0 []
def loadE:List Rw3→Mg→List Nat→Step (List Nat)
 | [],m,ns=>some (m,.ok ns)
 | r::l,m,ns=>(m.mk_ r.v 1 0).then fun m v=>(m.ite fuel v (flipIf (ns.getD (r.hi.toNat / 2) 0) (r.hi.toNat % 2 == 1)) (flipIf (ns.getD (r.lo.toNat / 2) 0) (r.lo.toNat % 2 == 1))).then fun m k=>loadE l m (ns ++ [k])
def load1 (rows:List Rw3) (root:Nat) (m:Mg):Step Nat:=(loadE (rows.take (root / 2)) m [0]).then fun m ns=>some (m,.ok (flipIf (ns.getD (root / 2) 0) (root % 2 == 1)))
def lives26:Option (List Rw3 × List Nat × Bool) :=
 (Mg.new 2 400).var_ 0 |>.bind fun (m,x,e1) =>
 m.var_ 1 |>.bind fun (m,y,e2) =>
 m.andM [(x:Int),(y:Int)] |>.bind fun (m,f,e3) =>
 m.rowsM [(f:Int)] |>.bind fun (m,q) =>
 match q with
 | .inr _=>none
 | .inl (q,roots) =>
   m.do_ (load1 q.rows (roots.getD 0 0)) |>.bind fun (m,g,e4) =>
   some (q.rows,roots,(m.same f g).1 && (e1 == 0 && e2 == 0 && e3 == 0 && e4 == 0))
theorem lives26_is:lives26=some ([⟨1,1,0⟩,⟨0,1,2⟩],[4],true):=by decide +kernel
end G
namespace G
theorem RS.get_push (q:RS) (i n j:Nat) (r:Rw3):(⟨q.rows ++ [r],q.at_ ++ [(i,n)]⟩:RS).get j=match q.get j with|some x=>some x|none=>if i=j then some n else none:=by
 unfold RS.get
 simp only [List.find?_append]
 cases hf:q.at_.find? (fun p=>p.1 == j) with
 | some p=>rfl
 | none =>
   simp only [Option.none_or,Option.map_none]
   by_cases e:i=j
   · subst e;simp
   · rw [if_neg e,List.find?_cons_of_neg (by simpa using e)];rfl
theorem down_succ (k:Nat) (s:St) (q:RS) (f:Nat):downR (k+1) s q f=match q.get (f / 2) with
 | some n=>some (q,edge n (f % 2 == 1))
 | none=>(downR k s q (s.splitI (flipIf f (f % 2 == 1)) (s.topE [flipIf f (f % 2 == 1)]).1).1).bind fun (q,lo) =>
   (downR k s q (s.splitI (flipIf f (f % 2 == 1)) (s.topE [flipIf f (f % 2 == 1)]).1).2).bind fun (q,hi) =>
   some (⟨q.rows ++ [⟨(s.topE [flipIf f (f % 2 == 1)]).1,lo,hi⟩],q.at_ ++ [(f / 2,q.rows.length+1)]⟩,edge (q.rows.length+1) (f % 2 == 1)):=rfl
theorem topE_one {s:St} {p:Nat} {n:Nd} (hn:s.nd (p / 2)=some n):(s.topE [p]).1=(n.v:Int):=by
 have ha:s.at_ p=some (n.v,flipIf n.lo (p % 2 == 1),flipIf n.hi (p % 2 == 1)):=by unfold St.at_;rw [hn];rfl
 simp only [St.topE,List.foldl_cons,List.foldl_nil,ha]
 rw [if_pos (.inl (by decide))]
theorem splitI_kid {s:St} {p:Nat} {n:Nd} (hn:s.nd (p / 2)=some n):(s.splitI p (s.topE [p]).1).1 / 2=n.lo / 2∧(s.splitI p (s.topE [p]).1).2 / 2=n.hi / 2:=by
 rw [topE_one hn]
 have ha:s.at_ p=some (n.v,flipIf n.lo (p % 2 == 1),flipIf n.hi (p % 2 == 1)):=by unfold St.at_;rw [hn];rfl
 simp only [St.splitI,ha,if_true]
 exact ⟨Km _ _,Km _ _⟩
theorem topE_none {s:St} {p:Nat} (hn:s.nd (p / 2)=none):s.splitI p (s.topE [p]).1=(p,p):=by
 have ha:s.at_ p=none:=by unfold St.at_;rw [hn];rfl
 simp only [St.splitI,ha]
theorem down_stuck {s:St} {p:Nat} (hn:s.nd (p / 2)=none) (hp:p % 2=0):∀ (k:Nat) (q:RS),q.get (p / 2)=none→downR k s q p=none
 | 0,q,_=>rfl
 | k+1,q,h=>by
   have hf:flipIf p (p % 2 == 1)=p:=by unfold flipIf;rw [hp];rfl
   rw [down_succ,h]
   simp only [hf,topE_none hn]
   rw [down_stuck hn hp k q h]
   rfl
theorem flipIf_self_even (f:Nat):flipIf f (f % 2 == 1) % 2=0:=by
 unfold flipIf flip
 rcases Nat.mod_two_eq_zero_or_one f with h|h <;> simp [h] <;> omega
theorem down_keys {s:St} {rk:Nat→Nat} (hac:Acyc s.nd rk):∀ (k:Nat) (q q':RS) (f e:Nat),(q.get 0).isSome=true→downR k s q f=some (q',e) →
  (∀ i,(q'.get i).isSome=true→(q.get i).isSome=true∨rk i≤rk (f / 2))∧(∀ i n,q.get i=some n→q'.get i=some n)∧q.rows.length≤q'.rows.length∧(∀ i n,q'.get i=some n→q.get i=some n∨n≤q'.rows.length)
 | 0,q,q',f,e,_,h=>by cases h
 | k+1,q,q',f,e,h0,h=>by
   rw [down_succ] at h
   cases hg:q.get (f / 2) with
   | some n =>
     rw [hg] at h
     cases h
     exact ⟨fun i h=>.inl h,fun i n h=>h,Nat.le_refl _,fun i n h=>.inl h⟩
   | none =>
     rw [hg] at h
     simp only at h
     generalize hp:flipIf f (f % 2 == 1)=p at *
     have hpf:p / 2=f / 2:=by rw [← hp];exact Km _ _
     have hpe:p % 2=0:=by rw [← hp];exact flipIf_self_even f
     cases hn:s.nd (p / 2) with
     | none =>
       simp only [topE_none hn] at h
       rw [down_stuck hn hpe k q (by rw [hpf];exact hg)] at h
       cases h
     | some n =>
       obtain ⟨k1,k2⟩:=splitI_kid hn
       generalize (s.splitI p (s.topE [p]).1).1=lo at *
       generalize (s.splitI p (s.topE [p]).1).2=hi at *
       have hf0:f / 2≠0:=fun e0=>by rw [e0] at hg;rw [hg] at h0;cases h0
       have rl:∀ i,rk i≤rk (lo / 2)→lo / 2≠0→rk i≤rk (f / 2):=fun i hi' hne=>by
        have:=(hac.lo _ _ hn).2 (by rw [← k1];exact hne)
        rw [← k1,hpf] at this
        omega
       have rh:∀ i,rk i≤rk (hi / 2)→hi / 2≠0→rk i≤rk (f / 2):=fun i hi' hne=>by
        have:=(hac.hi _ _ hn).2 (by rw [← k2];exact hne)
        rw [← k2,hpf] at this
        omega
       cases hd1:downR k s q lo with
       | none=>rw [hd1] at h;cases h
       | some x =>
         obtain ⟨q1,e1⟩:=x
         rw [hd1] at h
         simp only [Option.bind_some] at h
         obtain ⟨a1,a2,a3,a4⟩:=down_keys hac k q q1 lo e1 h0 hd1
         have h01:(q1.get 0).isSome=true:=by
          obtain ⟨z,hz⟩:=yF.1 h0
          rw [a2 _ _ hz];rfl
         cases hd2:downR k s q1 hi with
         | none=>rw [hd2] at h;cases h
         | some x =>
           obtain ⟨q2,e2⟩:=x
           rw [hd2] at h
           simp only [Option.bind_some] at h
           obtain ⟨b1,b2,b3,b4⟩:=down_keys hac k q1 q2 hi e2 h01 hd2
           cases h
           have zk:∀ (k:Nat) (q q':RS) (g e:Nat),(q.get 0).isSome=true→g / 2=0→downR k s q g=some (q',e)→q'=q:=fun k q q' g e hz hg0 hd=>by
            cases k with
            | zero=>cases hd
            | succ k =>
              rw [down_succ] at hd
              obtain ⟨z,hz⟩:=yF.1 hz
              rw [hg0,hz] at hd
              cases hd;rfl
           refine ⟨fun i hi'=>?_,fun i x hx=>?_,by simp only [yG,yB,yC];omega,fun i x hx=>?_⟩
           · rw [RS.get_push] at hi'
             cases hq2:q2.get i with
             | some y =>
               rcases b1 i (by rw [hq2];rfl) with h1|h1
               · rcases a1 i h1 with h2|h2
                 · exact .inl h2
                 · by_cases hz:lo / 2=0
                   · rw [zk k q q1 lo e1 h0 hz hd1] at h1;exact .inl h1
                   · exact .inr (rl i h2 hz)
               · by_cases hz:hi / 2=0
                 · have:=zk k q1 q2 hi e2 h01 hz hd2
                   subst this
                   rcases a1 i (by rw [hq2];rfl) with h2|h2
                   · exact .inl h2
                   · by_cases hz:lo / 2=0
                     · have:=zk k q q2 lo e1 h0 hz hd1
                       subst this
                       exact .inl (by rw [hq2];rfl)
                     · exact .inr (rl i h2 hz)
                 · exact .inr (rh i h1 hz)
             | none =>
               rw [hq2] at hi'
               simp only at hi'
               split at hi'
               · rename_i e0;exact .inr (by rw [e0];exact Nat.le_refl _)
               · cases hi'
           · rw [RS.get_push,b2 _ _ (a2 _ _ hx)]
           · rw [RS.get_push] at hx
             simp only [yG,yB,yC]
             cases hq2:q2.get i with
             | some y =>
               rw [hq2] at hx
               cases hx
               rcases b4 i _ hq2 with h1|h1
               · rcases a4 i _ h1 with h2|h2
                 · exact .inl h2
                 · exact .inr (by omega)
               · exact .inr (by omega)
             | none =>
               rw [hq2] at hx
               simp only at hx
               split at hx
               · cases hx;exact .inr (by omega)
               · cases hx
theorem down_fresh {s:St} {rk:Nat→Nat} (hac:Acyc s.nd rk) {k:Nat} {q q1 q2:RS} {f e1 e2:Nat} (h0:(q.get 0).isSome=true) (hg:q.get (f / 2)=none)
  (hd1:downR k s q (s.splitI (flipIf f (f % 2 == 1)) (s.topE [flipIf f (f % 2 == 1)]).1).1=some (q1,e1)) (hd2:downR k s q1 (s.splitI (flipIf f (f % 2 == 1)) (s.topE [flipIf f (f % 2 == 1)]).1).2=some (q2,e2)):q2.get (f / 2)=none:=by
 generalize hp:flipIf f (f % 2 == 1)=p at *
 have hpf:p / 2=f / 2:=by rw [← hp];exact Km _ _
 have hpe:p % 2=0:=by rw [← hp];exact flipIf_self_even f
 cases hn:s.nd (p / 2) with
 | none =>
   simp only [topE_none hn] at hd1
   rw [down_stuck hn hpe k q (by rw [hpf];exact hg)] at hd1
   cases hd1
 | some n =>
   obtain ⟨k1,k2⟩:=splitI_kid hn
   generalize (s.splitI p (s.topE [p]).1).1=lo at *
   generalize (s.splitI p (s.topE [p]).1).2=hi at *
   obtain ⟨a1,a2,_,_⟩:=down_keys hac k q q1 lo e1 h0 hd1
   have h01:(q1.get 0).isSome=true:=by
    obtain ⟨z,hz⟩:=yF.1 h0
    rw [a2 _ _ hz];rfl
   obtain ⟨b1,_,_,_⟩:=down_keys hac k q1 q2 hi e2 h01 hd2
   have zk:∀ (q q':RS) (g e:Nat),(q.get 0).isSome=true→g / 2=0→downR k s q g=some (q',e)→q'=q:=fun q q' g e hz hg0 hd=>by
    cases k with
    | zero=>cases hd
    | succ k =>
      rw [down_succ] at hd
      obtain ⟨z,hz⟩:=yF.1 hz
      rw [hg0,hz] at hd
      cases hd;rfl
   cases hq2:q2.get (f / 2) with
   | none=>rfl
   | some y =>
     exfalso
     have c1:(q1.get (f / 2)).isSome=true→False:=fun h1=>by
      rcases a1 _ h1 with h2|h2
      · rw [hg] at h2;cases h2
      · by_cases hz:lo / 2=0
        · rw [zk q q1 lo e1 h0 hz hd1,hg] at h1;cases h1
        · have:=(hac.lo _ _ hn).2 (by rw [← k1];exact hz)
          rw [← k1,hpf] at this
          omega
     rcases b1 (f / 2) (by rw [hq2];rfl) with h1|h1
     · exact c1 h1
     · by_cases hz:hi / 2=0
       · have:=zk q1 q2 hi e2 h01 hz hd2
         subst this
         exact c1 (by rw [hq2];rfl)
       · have:=(hac.hi _ _ hn).2 (by rw [← k2];exact hz)
         rw [← k2,hpf] at this
         omega
end G
end Go.Proofs.YtidamcdklgfogaaGreat
