import Derived.Test.YtidamcdklgfogaaGreatZab
import Derived.Test.YtidamcdklgfogaaGreatZaj
import Derived.Test.YtidamcdklgfogaaGreatZbg
set_option linter.unusedSimpArgs false
set_option linter.unusedVariables false
namespace Go.Proofs.YtidamcdklgfogaaGreat
namespace G
def iteF (φ ψ χ:Fn):Fn:=fun ρ=>if φ ρ then ψ ρ else χ ρ
abbrev Sem:=Nat→Fn→Fn→Fn→Fn
def MeOk (S:Sem) (G:Gr) (me:Memo):Prop:=∀ i e,me i=some e→val G e.a∧val G e.b∧val G e.c∧val G e.r∧den G e.r=S e.op (den G e.a) (den G e.b) (den G e.c)
theorem MeOk.none (S:Sem) (G:Gr):MeOk S G Memo.none:=fun i e h=>by cases h
theorem MeOk.gro {S:Sem} {Q:Tb→Prop} {s s':St} {me:Memo} (h:MeOk S s.nd me) (g:Gro Q s s'):MeOk S s'.nd me:=fun i e he=>by
 obtain ⟨h1,h2,h3,h4,h5⟩:=h i e he
 refine ⟨g.val h1,g.val h2,g.val h3,g.val h4,?_⟩
 rw [g.dens _ h1,g.dens _ h2,g.dens _ h3,g.dens _ h4,h5]
theorem MeOk.put {S:Sem} {G:Gr} {me:Memo} (h:MeOk S G me) {op a b c r:Nat} (ha:val G a) (hb:val G b) (hc:val G c) (hr:val G r) (hd:den G r=S op (den G a) (den G b) (den G c)):MeOk S G (me.put op a b c r):=fun i e he=>by
 unfold Memo.put at he
 split at he
 · injection he with he;subst he;exact ⟨ha,hb,hc,hr,hd⟩
 · exact h i e he
theorem MeOk.get {S:Sem} {G:Gr} {me:Memo} (h:MeOk S G me) {op a b c r:Nat} (hg:me.get op a b c=some r):val G r∧den G r=S op (den G a) (den G b) (den G c):=by
 unfold Memo.get at hg
 split at hg
 · rename_i e he
   split at hg
   · rename_i hk
     injection hg with hg;subst hg
     obtain ⟨rfl,rfl,rfl,rfl⟩:=hk
     obtain ⟨_,_,_,h4,h5⟩:=h _ e he
     exact ⟨h4,h5⟩
   · cases hg
 · cases hg
structure Grew (S:Sem) (B K:Nat) (m m':Mg):Prop where
 ok:StOk B m'.s
 me:MeOk S m'.s.nd m'.me
 gro:Gro (fun _=>True) m.s m'.s
 many:many m'.s.pl.slots≤many m.s.pl.slots+K
 hs:m'.hs=m.hs
 next:m'.next=m.next
 fresh:m'.fresh=m.fresh
theorem Grew.trans {S:Sem} {B K L:Nat} {m m' m'':Mg} (h:Grew S B K m m') (k:Grew S B L m' m''):Grew S B (K+L) m m'' :=
 ⟨k.ok,k.me,h.gro.trans k.gro,by have:=h.many;have:=k.many;omega,k.hs.trans h.hs,k.next.trans h.next,k.fresh.trans h.fresh⟩
theorem Grew.mono {S:Sem} {B K L:Nat} {m m':Mg} (h:Grew S B K m m') (hL:K≤L):Grew S B L m m':=⟨h.ok,h.me,h.gro,by have:=h.many;omega,h.hs,h.next,h.fresh⟩
theorem Grew.refl {S:Sem} {B:Nat} {m:Mg} (h:StOk B m.s) (hm:MeOk S m.s.nd m.me):Grew S B 0 m m:=⟨h,hm,Gro.refl _ _,Nat.le_refl _,rfl,rfl,rfl⟩
def Ends {α:Type} (K:Nat) (m m':Mg) (R:Mg→α ⊕ Nat→Prop):Rs α→Prop
 | .ok a=>m'.waits=m.waits∧R m' (.inl a)
 | .stop (.event ev)=>m.waits=ev::m'.waits
 | .stop (.err e)=>m'.waits=m.waits∧((e=7∧m.s.pl.room<many m.s.pl.slots+K)∨(e≠7∧R m' (.inr e)))
def Runs {α:Type} (S:Sem) (B K:Nat) (m:Mg) (x:Step α) (R:Mg→α ⊕ Nat→Prop):Prop:=∃ m' r,x=some (m',r)∧Grew S B K m m'∧Ends K m m' R r
theorem Ends.mono {α:Type} {K L:Nat} {m m':Mg} {R R':Mg→α ⊕ Nat→Prop} {r:Rs α} (h:Ends K m m' R r) (hL:K≤L) (hR:∀ x,R m' x→R' m' x):Ends L m m' R' r:=by
 cases r with
 | ok a=>exact ⟨h.1,hR _ h.2⟩
 | stop s=>cases s with
   | event ev=>exact h
   | err e=>exact ⟨h.1,h.2.imp (fun h=>⟨h.1,by omega⟩) fun h=>⟨h.1,hR _ h.2⟩⟩
theorem Runs.mono {α:Type} {S:Sem} {B K L:Nat} {m:Mg} {x:Step α} {R R':Mg→α ⊕ Nat→Prop} (h:Runs S B K m x R) (hL:K≤L) (hR:∀ m' y,Grew S B K m m'→R m' y→R' m' y):Runs S B L m x R':=by
 obtain ⟨m',r,rfl,g,e⟩:=h
 exact ⟨m',r,rfl,g.mono hL,e.mono hL fun y=>hR m' y g⟩
theorem Runs.pure {α:Type} {S:Sem} {B:Nat} {m:Mg} {a:α} {R:Mg→α ⊕ Nat→Prop} (h:StOk B m.s) (hm:MeOk S m.s.nd m.me) (hR:R m (.inl a)):Runs S B 0 m (some (m,.ok a)) R:=⟨m,_,rfl,Grew.refl h hm,rfl,hR⟩
theorem Runs.fail {α:Type} {S:Sem} {B e:Nat} {m:Mg} {R:Mg→α ⊕ Nat→Prop} (h:StOk B m.s) (hm:MeOk S m.s.nd m.me) (he:e≠7) (hR:R m (.inr e)):Runs S B 0 m (some (m,.stop (.err e)):Step α) R:=⟨m,_,rfl,Grew.refl h hm,rfl,.inr ⟨he,hR⟩⟩
theorem Runs.then {α β:Type} {S:Sem} {B K L:Nat} {m:Mg} {x:Step α} {f:Mg→α→Step β} {R:Mg→α ⊕ Nat→Prop} {R':Mg→β ⊕ Nat→Prop} (h:Runs S B K m x R)
  (he:∀ m' e,Grew S B K m m'→R m' (.inr e)→R' m' (.inr e)) (hf:∀ m' a,Grew S B K m m'→m'.waits=m.waits→R m' (.inl a)→Runs S B L m' (f m' a) R'):Runs S B (K+L) m (x.then f) R':=by
 obtain ⟨m',r,rfl,g,hr⟩:=h
 cases r with
 | ok a =>
   obtain ⟨m2,r2,h2,g2,e2⟩:=hf m' a g hr.1 hr.2
   refine ⟨m2,r2,h2,g.trans g2,?_⟩
   have hw:=hr.1
   cases r2 with
   | ok b=>exact ⟨e2.1.trans hw,e2.2⟩
   | stop s=>cases s with
     | event ev =>
       have e2:m'.waits=ev::m2.waits:=e2
       exact (hw.symm.trans e2:m.waits=ev::m2.waits)
     | err e=>exact ⟨e2.1.trans hw,e2.2.imp (fun h=>⟨h.1,by have:=g.many;have:=g.gro.room;omega⟩) id⟩
 | stop s=>cases s with
   | event ev=>exact ⟨m',_,rfl,g.mono (by omega),hr⟩
   | err e=>exact ⟨m',_,rfl,g.mono (by omega),hr.1,hr.2.imp (fun h=>⟨h.1,by omega⟩) fun h=>⟨h.1,he m' e g h.2⟩⟩
def Isf (φ:Fn) (m:Mg):Nat ⊕ Nat→Prop
 | .inl r=>val m.s.nd r∧den m.s.nd r=φ
 | .inr _=>False
section
variable {B:Nat} {s:St}
theorem StOk.above (h:StOk B s) {e v:Nat} (_:val s.nd e) (hi:∀ x,x<s.vars.length→lvf s x≤lvf s v→Indep (den s.nd e) x):∀ m,s.nd (e / 2)=some m→lvf s v<lvf s m.v:=fun m hm=>by
 refine Nat.lt_of_not_le fun hle=>?_
 have h1:=hi m.v (h.vars _ _ hm) hle
 refine h.can.dep hm (e % 2 == 1) ?_
 rwa [edge_split]
def lvE (s:St) (e:Nat):Nat:=match s.nd (e / 2) with|some m=>lvf s m.v|none=>s.vars.length
theorem lvE_some {e:Nat} {m:Nd} (hm:s.nd (e / 2)=some m):lvE s e=lvf s m.v:=by unfold lvE;rw [hm]
theorem lvE_none {e:Nat} (hm:s.nd (e / 2)=none):lvE s e=s.vars.length:=by unfold lvE;rw [hm]
theorem StOk.indepE (h:StOk B s) {e x:Nat} (he:val s.nd e) (hx:x<s.vars.length) (hl:lvf s x<lvE s e):Indep (den s.nd e) x:=by
 refine h.low he fun m hm=>?_
 rwa [lvE_some hm] at hl
theorem lvE_div {e f:Nat} (h:e / 2=f / 2):lvE s e=lvE s f:=by unfold lvE;rw [h]
theorem lvE_gro {Q:Tb→Prop} {s':St} (g:Gro Q s s') {e:Nat} (he:val s.nd e) (h0:s'.nd 0=none):lvE s' e=lvE s e:=by
 have hlv:lvf s'=lvf s:=by unfold lvf;rw [g.lev]
 unfold lvE
 rw [hlv,g.vars]
 cases hm:s.nd (e / 2) with
 | some m=>rw [g.old _ _ hm]
 | none =>
   rcases he with h|h
   · rw [h,h0]
   · rw [hm] at h;cases h
theorem StOk.splitI (h:StOk B s) {f v:Nat} (hf:val s.nd f) (hvn:v<s.vars.length) (hl:lvf s v≤lvE s f) (b:Bool) :
  val s.nd (if b then (s.splitI f v).2 else (s.splitI f v).1)∧den s.nd (if b then (s.splitI f v).2 else (s.splitI f v).1)=(fun ρ=>den s.nd f (upd ρ v b))∧lvf s v<lvE s (if b then (s.splitI f v).2 else (s.splitI f v).1):=by
 cases hn:s.nd (f / 2) with
 | none =>
   have he:s.splitI f v=(f,f):=by unfold St.splitI St.at_;rw [hn];rfl
   have hv:lvf s v<lvE s f:=by rw [lvE_none hn];exact (h.pm.lv v hvn).1
   rw [he]
   simp only [ite_self]
   exact ⟨hf,funext fun ρ=>(h.indepE hf hvn hv ρ b).symm,hv⟩
 | some n =>
   rw [lvE_some hn] at hl
   by_cases hv:n.v=v
   · subst hv
     have he:s.splitI f n.v=(flipIf n.lo (f % 2 == 1),flipIf n.hi (f % 2 == 1)):=by unfold St.splitI St.at_;rw [hn];simp
     rw [he]
     have hif:(if b then (flipIf n.lo (f % 2 == 1),flipIf n.hi (f % 2 == 1)).2 else (flipIf n.lo (f % 2 == 1),flipIf n.hi (f % 2 == 1)).1)=flipIf (if b then n.hi else n.lo) (f % 2 == 1):=by cases b <;> rfl
     rw [hif]
     have hk:=h.can.toAcyc.kid hn b
     have hind:Indep (den s.nd (if b then n.hi else n.lo)) n.v:=by cases b;exact h.can.indl _ _ hn;exact h.can.indh _ _ hn
     refine ⟨val_flipIf.2 hk.1,funext fun ρ=>?_,?_⟩
     · rw [Kv,Yk h.can.toAcyc hn,Kl]
       congr 1
       exact (hind ρ b).symm
     · rw [lvE_div (Km _ _)]
       cases hm:s.nd ((if b then n.hi else n.lo) / 2) with
       | none=>rw [lvE_none hm];exact (h.pm.lv _ (h.vars _ _ hn)).1
       | some k=>rw [lvE_some hm];cases b;exact h.ord.lo _ _ hn (Nat.zero_le _) _ hm;exact h.ord.hi _ _ hn (Nat.zero_le _) _ hm
   · have he:s.splitI f v=(f,f):=by
       unfold St.splitI St.at_;rw [hn]
       show (if ((n.v:Nat):Int)=(v:Int) then _ else _)=_
       rw [if_neg (by omega)]
     have hlt:lvf s v<lvE s f:=by
      rw [lvE_some hn]
      refine Nat.lt_of_le_of_ne hl fun e=>hv ?_
      exact (h.pm.inj hvn (h.vars _ _ hn) e).symm
     rw [he]
     simp only [ite_self]
     exact ⟨hf,funext fun ρ=>(h.indepE hf hvn hlt ρ b).symm,hlt⟩
theorem StOk.topF (h:StOk B s):∀ (l:List Nat) (q:Int × Int),(q=(-1,0)∨∃ v,v<s.vars.length∧q=((v:Int),(lvf s v:Int))) →
  (let r:=l.foldl (fun q f=>match s.at_ f with|none=>q|some (v,_,_)=>if q.1<0∨s.level v<q.2 then ((v:Int),s.level v) else q) q
   (r=(-1,0)∧q=(-1,0)∧∀ e ∈ l,s.nd (e / 2)=none)∨∃ v,v<s.vars.length∧r=((v:Int),(lvf s v:Int))∧(∀ x:Nat,q=((x:Int),(lvf s x:Int))→lvf s v≤lvf s x)∧(∀ e ∈ l,lvf s v≤lvE s e)∧((q=((v:Int),(lvf s v:Int)))∨∃ e ∈ l,∃ m,s.nd (e / 2)=some m∧m.v=v))
 | [],q,hq=>by
   rcases hq with rfl|⟨v,hv,rfl⟩
   · exact .inl ⟨rfl,rfl,by simp⟩
   · refine .inr ⟨v,hv,rfl,fun x hx=>?_,by simp,.inl rfl⟩
     have:=congrArg Prod.snd hx
     simp at this
     omega
 | e::l,q,hq=>by
   simp only [List.foldl_cons]
   cases hn:s.nd (e / 2) with
   | none =>
     have he:s.at_ e=none:=by unfold St.at_;rw [hn];rfl
     rw [he]
     rcases h.topF l q hq with ⟨h1,h2,h3⟩|⟨v,h1,h2,h3,h4,h5⟩
     · exact .inl ⟨h1,h2,by intro x hx;rcases List.mem_cons.1 hx with rfl|hx;exact hn;exact h3 x hx⟩
     · refine .inr ⟨v,h1,h2,h3,fun x hx=>?_,?_⟩
       · rcases List.mem_cons.1 hx with rfl|hx
         · rw [lvE_none hn];exact Nat.le_of_lt (h.pm.lv v h1).1
         · exact h4 x hx
       · rcases h5 with h5|⟨x,hx,m,hm⟩
         · exact .inl h5
         · exact .inr ⟨x,.tail _ hx,m,hm⟩
   | some n =>
     have hnv:=h.vars _ _ hn
     have he:s.at_ e=some (n.v,flipIf n.lo (e % 2 == 1),flipIf n.hi (e % 2 == 1)):=by unfold St.at_;rw [hn];rfl
     have hlev:=h.pm.level_nat hnv
     rw [he]
     simp only [hlev]
     by_cases hc:q.1<0∨(lvf s n.v:Int)<q.2
     · rw [if_pos hc]
       rcases h.topF l _ (.inr ⟨n.v,hnv,rfl⟩) with ⟨_,h2,_⟩|⟨v,h1,h2,h3,h4,h5⟩
       · exact absurd (congrArg Prod.fst h2) (by simp <;> omega)
       · have h6:=h3 n.v rfl
         refine .inr ⟨v,h1,h2,fun x hx=>?_,fun x hx=>?_,?_⟩
         · subst hx
           simp at hc
           omega
         · rcases List.mem_cons.1 hx with rfl|hx
           · rw [lvE_some hn];exact h6
           · exact h4 x hx
         · rcases h5 with h5|⟨x,hx,m,hm⟩
           · refine .inr ⟨e,.head _,n,hn,?_⟩
             have:=congrArg Prod.fst h5
             simp at this
             omega
           · exact .inr ⟨x,.tail _ hx,m,hm⟩
     · rw [if_neg hc]
       rcases h.topF l q hq with ⟨_,h2,_⟩|⟨v,h1,h2,h3,h4,h5⟩
       · subst h2;simp at hc
       · refine .inr ⟨v,h1,h2,h3,fun x hx=>?_,?_⟩
         · rcases List.mem_cons.1 hx with rfl|hx
           · rw [lvE_some hn]
             rcases hq with rfl|⟨y,hy,rfl⟩
             · simp at hc
             · have:=h3 y rfl
               simp at hc
               omega
           · exact h4 x hx
         · rcases h5 with h5|⟨x,hx,m,hm⟩
           · exact .inl h5
           · exact .inr ⟨x,.tail _ hx,m,hm⟩
theorem StOk.topE (h:StOk B s) {l:List Nat} (hx:∃ e ∈ l,(s.nd (e / 2)).isSome=true):∃ v,v<s.vars.length∧(s.topE l).1=(v:Int)∧(∀ e ∈ l,lvf s v≤lvE s e)∧∃ e ∈ l,∃ m,s.nd (e / 2)=some m∧m.v=v:=by
 rcases h.topF l (-1,0) (.inl rfl) with ⟨_,_,h3⟩|⟨v,h1,h2,h3,h4,h5⟩
 · obtain ⟨e,he,hs⟩:=hx
   rw [h3 e he] at hs;cases hs
 · refine ⟨v,h1,congrArg Prod.fst h2,h4,?_⟩
   rcases h5 with h5|h5
   · exact absurd (congrArg Prod.fst h5) (by simp <;> omega)
   · exact h5
theorem StOk.topE_none (h:StOk B s) {l:List Nat} (hx:∀ e ∈ l,s.nd (e / 2)=none):s.topE l=(-1,0):=by
 rcases h.topF l (-1,0) (.inl rfl) with ⟨h1,_,_⟩|⟨v,h1,h2,h3,h4,h5⟩
 · exact h1
 · rcases h5 with h5|⟨e,he,m,hm,_⟩
   · exact absurd (congrArg Prod.fst h5) (by simp <;> omega)
   · rw [hx e he] at hm;cases hm
end
theorem Added.gro {B:Nat} {s s':St} {v lo hi id:Nat} (a:Added s v lo hi s' id) (hd:∀ e,val s.nd e→∀ ρ,den s'.nd e ρ=den s.nd e ρ) (_:StOk B s):Gro (fun _=>True) s s' where
 vars:=a.vars
 lev:=a.lev
 room:=a.room
 old i n hn:=by rw [a.nd,Kc _ _ (by rintro rfl;rw [a.old] at hn;cases hn)];exact hn
 dens e he:=funext (hd e he)
 new i n h1 h2:=by
  rw [a.nd] at h1
  by_cases hi:i=id
  · subst hi;rw [Qy] at h1;injection h1 with h1;subst h1;exact ⟨rfl,trivial⟩
  · rw [Kc _ _ hi,h2] at h1;cases h1
theorem Mg.mk_ok {S:Sem} {B:Nat} {m:Mg} (h:StOk B m.s) (hm:MeOk S m.s.nd m.me) {v lo hi:Nat} (hv:v<m.s.vars.length) (hl:val m.s.nd lo) (hh:val m.s.nd hi)
  (il:∀ x,x<m.s.vars.length→lvf m.s x≤lvf m.s v→Indep (den m.s.nd lo) x) (ih:∀ x,x<m.s.vars.length→lvf m.s x≤lvf m.s v→Indep (den m.s.nd hi) x) :
  Runs S B 1 m (m.mk_ v lo hi) (Isf (ite3 v (den m.s.nd hi) (den m.s.nd lo))):=by
 have key:∀ c:Int,Runs S B 1 m (({ m with calls:=c }:Mg).mkS v lo hi) (Isf (ite3 v (den m.s.nd hi) (den m.s.nd lo))):=fun c=>by
  unfold Mg.mkS
  rcases h.make hv hl hh (h.above hl il) (h.above hh ih) with ⟨r,h1,h2,h3⟩|⟨h1,h2,_,_⟩|⟨s',id,t,h1,h2,h3,h4,_,h5,h6,_⟩
  · refine ⟨{ m with calls:=c },.ok r,?_,⟨h,hm,Gro.refl _ _,Nat.le_succ _,rfl,rfl,rfl⟩,rfl,h2,funext h3⟩
    show (match m.s.mkE v lo hi with|none=>none|some (s,r,e)=>_)=_
    rw [h1];rfl
  · refine ⟨{ m with calls:=c },.stop (.err 7),?_,⟨h,hm,Gro.refl _ _,Nat.le_succ _,rfl,rfl,rfl⟩,rfl,.inl ⟨rfl,by omega⟩⟩
    show (match m.s.mkE v lo hi with|none=>none|some (s,r,e)=>_)=_
    rw [h1];rfl
  · have g:=h2.gro h5 h
    refine ⟨{ m with calls:=c,s:=s' },.ok (G.edge id t),?_,⟨h3,hm.gro g,g,by show _≤_;rw [h2.many];exact Nat.le_refl _,rfl,rfl,rfl⟩,rfl,?_,funext h6⟩
    · show (match m.s.mkE v lo hi with|none=>none|some (s,r,e)=>_)=_
      rw [h1];rfl
    · show val s'.nd _
      rw [h2.nd]
      exact val_some (Qy _ _ _) _
 unfold Mg.mk_
 dsimp only
 split
 · rename_i ev l hw
   split
   · exact ⟨_,_,rfl,⟨h,hm,Gro.refl _ _,Nat.le_succ _,rfl,rfl,rfl⟩,hw⟩
   · exact key _
 · exact key _
end G
namespace G
section
variable {G:Gr}
theorem den_zero (g0:G 0=none) (ρ:Nat→Bool):den G 0 ρ=true:=Kf g0 rfl ρ
theorem den_one (g0:G 0=none) (ρ:Nat→Bool):den G 1 ρ=false:=Kf g0 rfl ρ
theorem iteF_congr {φ ψ ψ' χ χ':Fn} (ρ:Nat→Bool) (h1:φ ρ=true→ψ' ρ=ψ ρ) (h2:φ ρ=false→χ' ρ=χ ρ):iteF φ ψ χ ρ=iteF φ ψ' χ' ρ:=by
 unfold iteF
 cases h:φ ρ with
 | true=>simp [h1 h]
 | false=>simp [h2 h]
theorem iteE_ok (g0:G 0=none) (f g h:Nat):match iteE f g h with
  | .inl r=>(∀ Q:Nat→Prop,Q 0→Q (f / 2)→Q (g / 2)→Q (h / 2)→Q (r / 2))∧∀ ρ,iteF (den G f) (den G g) (den G h) ρ=den G r ρ
  | .inr (a,b,c,n)=>(∀ Q:Nat→Prop,Q 0→Q (f / 2)→Q (g / 2)→Q (h / 2)→Q (a / 2)∧Q (b / 2)∧Q (c / 2))∧a / 2≠0∧∀ ρ,iteF (den G f) (den G g) (den G h) ρ=(n ^^ iteF (den G a) (den G b) (den G c) ρ):=by
 unfold iteE
 have hg:∀ g' ,g'=(if g=f then 0 else if g=flip f then 1 else g)→(∀ Q:Nat→Prop,Q 0→Q (g / 2)→Q (g' / 2))∧∀ ρ,den G f ρ=true→den G g' ρ=den G g ρ:=by
  rintro _ rfl
  split
  · rename_i e;subst e
    exact ⟨fun Q q _=>q,fun ρ hρ=>by rw [den_zero g0,hρ]⟩
  · split
    · rename_i e;subst e
      exact ⟨fun Q q _=>q,fun ρ hρ=>by rw [den_one g0,den_flip,hρ];rfl⟩
    · exact ⟨fun Q _ q=>q,fun ρ _=>rfl⟩
 have hh:∀ h' ,h'=(if h=f then 1 else if h=flip f then 0 else h)→(∀ Q:Nat→Prop,Q 0→Q (h / 2)→Q (h' / 2))∧∀ ρ,den G f ρ=false→den G h' ρ=den G h ρ:=by
  rintro _ rfl
  split
  · rename_i e;subst e
    exact ⟨fun Q q _=>q,fun ρ hρ=>by rw [den_one g0,hρ]⟩
  · split
    · rename_i e;subst e
      exact ⟨fun Q q _=>q,fun ρ hρ=>by rw [den_zero g0,den_flip,hρ];rfl⟩
    · exact ⟨fun Q _ q=>q,fun ρ _=>rfl⟩
 simp only []
 generalize hg':(if g=f then 0 else if g=flip f then 1 else g)=g'
 generalize hh':(if h=f then 1 else if h=flip f then 0 else h)=h'
 obtain ⟨qg,dg⟩:=hg g' hg'.symm
 obtain ⟨qh,dh⟩:=hh h' hh'.symm
 have key:∀ ρ,iteF (den G f) (den G g) (den G h) ρ=iteF (den G f) (den G g') (den G h') ρ:=fun ρ=>iteF_congr ρ (dg ρ) (dh ρ)
 by_cases c1:f=0∨g'=h'
 · rw [if_pos c1]
   refine ⟨fun Q q0 _ q1 _=>qg Q q0 q1,fun ρ=>?_⟩
   rw [key]
   rcases c1 with rfl|rfl
   · unfold iteF;rw [den_zero g0];rfl
   · unfold iteF;simp
 rw [if_neg c1]
 by_cases c2:f=1
 · rw [if_pos c2]
   refine ⟨fun Q q0 _ _ q2=>qh Q q0 q2,fun ρ=>?_⟩
   subst c2
   rw [key];unfold iteF;rw [den_one g0];rfl
 rw [if_neg c2]
 by_cases c3:g'=0∧h'=1
 · rw [if_pos c3]
   refine ⟨fun Q _ q _ _=>q,fun ρ=>?_⟩
   rw [key,c3.1,c3.2];unfold iteF;rw [den_zero g0,den_one g0];cases den G f ρ <;> rfl
 rw [if_neg c3]
 by_cases c4:g'=1∧h'=0
 · rw [if_pos c4]
   refine ⟨fun Q _ q _ _=>by rw [flip_div];exact q,fun ρ=>?_⟩
   rw [key,c4.1,c4.2,den_flip];unfold iteF;rw [den_zero g0,den_one g0];cases den G f ρ <;> rfl
 rw [if_neg c4]
 have hf2:f / 2≠0:=by omega
 have fin:∀ a b c:Nat,a / 2=f / 2→(∀ Q:Nat→Prop,Q 0→Q (g / 2)→Q (h / 2)→Q (b / 2)∧Q (c / 2))→(∀ ρ,iteF (den G f) (den G g') (den G h') ρ=iteF (den G a) (den G b) (den G c) ρ) →
   (∀ Q:Nat→Prop,Q 0→Q (f / 2)→Q (g / 2)→Q (h / 2)→Q (a / 2)∧Q (flipIf b (b % 2 == 1) / 2)∧Q (flipIf c (b % 2 == 1) / 2))∧a / 2≠0∧∀ ρ,iteF (den G f) (den G g) (den G h) ρ=((b % 2 == 1) ^^ iteF (den G a) (den G (flipIf b (b % 2 == 1))) (den G (flipIf c (b % 2 == 1))) ρ):=fun a b c ha hQ hρ=>by
  refine ⟨fun Q q0 q1 q2 q3=>?_,by rw [ha];exact hf2,fun ρ=>?_⟩
  · rw [Km,Km,ha];exact ⟨q1,hQ Q q0 q2 q3⟩
  · rw [key,hρ]
    unfold iteF
    rw [Kv,Kv]
    cases den G a ρ <;> simp
 by_cases hf:f % 2=1
 · rw [if_pos hf]
   refine fin _ _ _ (flip_div f) (fun Q q0 q2 q3=>⟨qh Q q0 q3,qg Q q0 q2⟩) fun ρ=>?_
   unfold iteF;rw [den_flip];cases den G f ρ <;> rfl
 · rw [if_neg hf]
   exact fin _ _ _ rfl (fun Q q0 q2 q3=>⟨qg Q q0 q2,qh Q q0 q3⟩) fun ρ=>rfl
theorem iteN_ok (g0:G 0=none):∀ (k:Nat) (t:Bool) (f g h:Nat),(k=0→f / 2≠0)→match iteN k t f g h with
  | (u,.inl r)=>(∀ Q:Nat→Prop,Q 0→Q (f / 2)→Q (g / 2)→Q (h / 2)→Q (r / 2))∧∀ ρ,(t ^^ iteF (den G f) (den G g) (den G h) ρ)=(u ^^ den G r ρ)
  | (u,.inr (a,b,c))=>(∀ Q:Nat→Prop,Q 0→Q (f / 2)→Q (g / 2)→Q (h / 2)→Q (a / 2)∧Q (b / 2)∧Q (c / 2))∧a / 2≠0∧∀ ρ,(t ^^ iteF (den G f) (den G g) (den G h) ρ)=(u ^^ iteF (den G a) (den G b) (den G c) ρ)
 | 0,t,f,g,h,hk=>⟨fun Q _ q1 q2 q3=>⟨q1,q2,q3⟩,hk rfl,fun ρ=>rfl⟩
 | k+1,t,f,g,h,_=>by
   have h1:=iteE_ok g0 f g h
   unfold iteN
   revert h1
   rcases iteE f g h with r|⟨a,b,c,n⟩
   · exact fun h1=>⟨h1.1,fun ρ=>by rw [h1.2]⟩
   · intro h1
     obtain ⟨h1,h2,h3⟩:=h1
     simp only []
     by_cases hc:a=f∧b=g∧c=h
     · rw [if_pos hc]
       obtain ⟨rfl,rfl,rfl⟩:=hc
       exact ⟨fun Q _ q1 q2 q3=>⟨q1,q2,q3⟩,h2,fun ρ=>by
        have:=h3 ρ
        cases n with
        | false=>simp
        | true=>simp at this⟩
     · rw [if_neg hc]
       have ih:=iteN_ok g0 k (t ^^ n) a b c (fun _=>h2)
       revert ih
       rcases iteN k (t ^^ n) a b c with ⟨u,r|⟨a',b',c'⟩⟩
       · rintro ⟨i1,i2⟩
         exact ⟨fun Q q0 q1 q2 q3=>by obtain ⟨x,y,z⟩:=h1 Q q0 q1 q2 q3;exact i1 Q q0 x y z,fun ρ=>by rw [h3,← i2,Bool.xor_assoc]⟩
       · rintro ⟨i1,i2,i3⟩
         exact ⟨fun Q q0 q1 q2 q3=>by obtain ⟨x,y,z⟩:=h1 Q q0 q1 q2 q3;exact i1 Q q0 x y z,i2,fun ρ=>by rw [h3,← i3,Bool.xor_assoc]⟩
end
theorem pow_half {n l L:Nat} (hl:l<n) (hL:L≤l):(2 ^ (n - (l+1)) - 1)+((2 ^ (n - (l+1)) - 1)+(1+0))≤2 ^ (n - L) - 1:=by
 have h1:0<2 ^ (n - (l+1)):=Nat.pow_pos (by decide)
 have h2:2 ^ (n - l)=2 * 2 ^ (n - (l+1)):=by rw [show n - l=(n - (l+1))+1 by omega,Nat.pow_succ];omega
 have h3:2 ^ (n - l)≤2 ^ (n - L):=Nat.pow_le_pow_right (by decide) (by omega)
 omega
theorem Mg.ite_ok {S:Sem} (hS1:∀ φ ψ χ,S 1 φ ψ χ=iteF φ ψ χ) {B:Nat}:∀ (k L:Nat) (m:Mg) (f g h:Nat),StOk B m.s→MeOk S m.s.nd m.me→val m.s.nd f→val m.s.nd g→val m.s.nd h →
  L≤m.s.vars.length→L≤lvE m.s f→L≤lvE m.s g→L≤lvE m.s h→m.s.vars.length<k+L →
  Runs S B (2 ^ (m.s.vars.length - L) - 1) m (m.ite k f g h) (Isf (iteF (den m.s.nd f) (den m.s.nd g) (den m.s.nd h)))
 | 0,L,m,f,g,h,_,_,_,_,_,hL,_,_,_,hk=>by omega
 | k+1,L,m,f,g,h,hok,hme,vf,vg,vh,hL,lf,lg,lh,hk=>by
   have g0:=hok.can.g0
   have h1:=iteN_ok g0 3 false f g h (fun h=>by cases h)
   unfold Mg.ite
   revert h1
   rcases iteN 3 false f g h with ⟨t,r|⟨a,b,c⟩⟩
   · rintro ⟨h1,h2⟩
     refine (Runs.pure hok hme ⟨val_flipIf.2 ?_,funext fun ρ=>?_⟩).mono (Nat.zero_le _) fun _ _ _ h=>h
     · exact h1 (fun i=>i=0∨(m.s.nd i).isSome=true) (.inl rfl) vf vg vh
     · have:=h2 ρ
       rw [Bool.false_xor] at this
       rw [Kv,this]
   rintro ⟨h1,h2,h3⟩
   have hv:=h1 (fun i=>i=0∨(m.s.nd i).isSome=true) (.inl rfl) vf vg vh
   have hl:=h1 (fun i=>∀ e,e / 2=i→L≤lvE m.s e) (fun e he=>by rw [lvE_none (by rw [he];exact g0)];exact hL) (fun e he=>by rw [lvE_div he];exact lf) (fun e he=>by rw [lvE_div he];exact lg) (fun e he=>by rw [lvE_div he];exact lh)
   obtain ⟨va,vb,vc⟩:=hv
   obtain ⟨la,lb,lc⟩:=hl
   have la:=la a rfl
   have lb:=lb b rfl
   have lc:=lc c rfl
   have va:val m.s.nd a:=va
   have vb:val m.s.nd b:=vb
   have vc:val m.s.nd c:=vc
   simp only []
   cases hget:m.me.get 1 a b c with
   | some r =>
     obtain ⟨e1,e2⟩:=hme.get hget
     rw [hS1] at e2
     refine (Runs.pure hok hme ⟨val_flipIf.2 e1,funext fun ρ=>?_⟩).mono (Nat.zero_le _) fun _ _ _ h=>h
     have:=h3 ρ
     rw [Bool.false_xor] at this
     rw [Kv,e2,this]
   | none =>
     have hsa:(m.s.nd (a / 2)).isSome=true:=va.resolve_left h2
     obtain ⟨v,hvn,hve,hvl,_⟩:=hok.topE (l:=[a,b,c]) ⟨a,.head _,hsa⟩
     have hlL:L≤lvf m.s v:=by
      obtain ⟨v',hvn',hve',_,e,he,n',hn',hv'⟩:=hok.topE (l:=[a,b,c]) ⟨a,.head _,hsa⟩
      have:v'=v:=by rw [hve] at hve';omega
      subst this
      have hlv:lvE m.s e=lvf m.s v':=by rw [lvE_some hn',hv']
      rw [← hlv]
      simp only [List.mem_cons,List.not_mem_nil,or_false] at he
      rcases he with rfl|rfl|rfl
      · exact la
      · exact lb
      · exact lc
     have hlv:=(hok.pm.lv v hvn).1
     have sa:=hok.splitI va hvn (hvl a (by simp))
     have sb:=hok.splitI vb hvn (hvl b (by simp))
     have sc:=hok.splitI vc hvn (hvl c (by simp))
     simp only [hve]
     have sa0:=sa false;have sa1:=sa true
     have sb0:=sb false;have sb1:=sb true
     have sc0:=sc false;have sc1:=sc true
     simp only [Bool.false_eq_true,if_false,if_true] at sa0 sa1 sb0 sb1 sc0 sc1
     generalize (m.s.splitI a v).1=a0 at *
     generalize (m.s.splitI a v).2=a1 at *
     generalize (m.s.splitI b v).1=b0 at *
     generalize (m.s.splitI b v).2=b1 at *
     generalize (m.s.splitI c v).1=c0 at *
     generalize (m.s.splitI c v).2=c1 at *
     have hr:=Mg.ite_ok hS1 (B:=B) k (lvf m.s v+1) m a0 b0 c0 hok hme sa0.1 sb0.1 sc0.1 hlv sa0.2.2 sb0.2.2 sc0.2.2 (by omega)
     refine ((hr.then (L:=(2 ^ (m.s.vars.length - (lvf m.s v+1)) - 1)+(1+0)) (R':=Isf (iteF (den m.s.nd f) (den m.s.nd g) (den m.s.nd h))) (fun m' e _ hb=>hb.elim) fun m1 lo g1 _ r1=>?_)).mono (pow_half hlv hlL) fun _ _ _ h=>h
     obtain ⟨vlo,dlo⟩:=r1
     have n1:m1.s.vars.length=m.s.vars.length:=by rw [g1.gro.vars]
     have lvm:lvf m1.s=lvf m.s:=by unfold lvf;rw [g1.gro.lev]
     have g01:=g1.ok.can.g0
     have hr2:=Mg.ite_ok hS1 (B:=B) k (lvf m.s v+1) m1 a1 b1 c1 g1.ok g1.me (g1.gro.val sa1.1) (g1.gro.val sb1.1) (g1.gro.val sc1.1) (by rw [n1];exact hlv)
      (by rw [lvE_gro g1.gro sa1.1 g01];exact sa1.2.2) (by rw [lvE_gro g1.gro sb1.1 g01];exact sb1.2.2) (by rw [lvE_gro g1.gro sc1.1 g01];exact sc1.2.2) (by rw [n1];omega)
     rw [n1] at hr2
     refine hr2.then (L:=1+0) (fun m' e _ hb=>hb.elim) fun m2 hi g2 _ r2=>?_
     obtain ⟨vhi,dhi⟩:=r2
     have n2:m2.s.vars.length=m.s.vars.length:=by rw [g2.gro.vars,n1]
     have lvm2:lvf m2.s=lvf m.s:=by unfold lvf;rw [g2.gro.lev,g1.gro.lev]
     rw [g1.gro.dens _ sa1.1,g1.gro.dens _ sb1.1,g1.gro.dens _ sc1.1] at dhi
     have ind:∀ (e:Nat) x,val m.s.nd e→lvf m.s v<lvE m.s e→x<m.s.vars.length→lvf m.s x≤lvf m.s v→Indep (den m.s.nd e) x:=fun e x he hl hx hxl=>hok.indepE he hx (by omega)
     have indF:∀ {φ ψ χ:Fn} {x:Nat},Indep φ x→Indep ψ x→Indep χ x→Indep (iteF φ ψ χ) x:=fun i j l ρ b=>by unfold iteF;rw [i,j,l]
     have dlo2:den m2.s.nd lo=iteF (den m.s.nd a0) (den m.s.nd b0) (den m.s.nd c0):=by rw [g2.gro.dens _ vlo,dlo]
     have hmk:=Mg.mk_ok (S:=S) g2.ok g2.me (v:=v) (lo:=lo) (hi:=hi) (by rw [n2];exact hvn) (g2.gro.val vlo) vhi
      (fun x hx hxl=>by
        rw [n2] at hx;rw [lvm2] at hxl;rw [dlo2]
        exact indF (ind _ x sa0.1 sa0.2.2 hx hxl) (ind _ x sb0.1 sb0.2.2 hx hxl) (ind _ x sc0.1 sc0.2.2 hx hxl))
      (fun x hx hxl=>by
        rw [n2] at hx;rw [lvm2] at hxl;rw [dhi]
        exact indF (ind _ x sa1.1 sa1.2.2 hx hxl) (ind _ x sb1.1 sb1.2.2 hx hxl) (ind _ x sc1.1 sc1.2.2 hx hxl))
     refine hmk.then (L:=0) (fun m' e _ hb=>hb.elim) fun m3 r g3 _ r3=>?_
     obtain ⟨vr,dr⟩:=r3
     have gg:Gro (fun _=>True) m.s m3.s:=(g1.gro.trans g2.gro).trans g3.gro
     rw [dlo2,dhi,sa0.2.1,sb0.2.1,sc0.2.1,sa1.2.1,sb1.2.1,sc1.2.1] at dr
     have dr':den m3.s.nd r=iteF (den m.s.nd a) (den m.s.nd b) (den m.s.nd c):=by
      rw [dr]
      funext ρ
      unfold ite3 iteF
      cases hb:ρ v with
      | true=>simp only [if_true];have:=upd_same ρ v;rw [hb] at this;rw [this]
      | false=>simp only [Bool.false_eq_true,if_false];have:=upd_same ρ v;rw [hb] at this;rw [this]
     have hput:=g3.me.put (op:=1) (gg.val va) (gg.val vb) (gg.val vc) vr (by rw [hS1,gg.dens _ va,gg.dens _ vb,gg.dens _ vc,dr'])
     refine ⟨{ m3 with me:=m3.me.put 1 a b c r },_,rfl,⟨g3.ok,hput,Gro.refl _ _,Nat.le_refl _,rfl,rfl,rfl⟩,rfl,val_flipIf.2 vr,funext fun ρ=>?_⟩
     have:=h3 ρ
     rw [Bool.false_xor] at this
     rw [Kv,dr',this]
end G
end Go.Proofs.YtidamcdklgfogaaGreat
