import Derived.Test.YtidamcdklgfogaaGreatZab
import Derived.Test.YtidamcdklgfogaaGreatZbm
set_option linter.unusedSimpArgs false
set_option linter.unusedVariables false
set_option maxRecDepth 100000
set_option maxHeartbeats 4000000
namespace Go.Proofs.YtidamcdklgfogaaGreat
namespace G
variable {S:Sem} {n c:Nat} {m:Mg}
theorem of_append {hs:List (Int × Nat)} {k h:Int} {f:Nat} (hk:∀ p ∈ hs,p.1≠k):((hs ++ [(k,f)]).find? fun p=>p.1 == h).map (·.2)=if h=k then some f else (hs.find? fun p=>p.1 == h).map (·.2):=by
 rw [List.find?_append]
 by_cases e:h=k
 · subst e
   have:hs.find? (fun p=>p.1 == h)=none:=List.find?_eq_none.2 fun p hp=>by simpa using hk p hp
   rw [this,if_pos rfl];simp
 · rw [if_neg e]
   have:([(k,f)]:List (Int × Nat)).find? (fun p=>p.1 == h)=none:=by simp;omega
   rw [this];simp
structure Given (m m':Mg) (φ:Fn):Prop where
 hs:∃ f,m'.hs=m.hs ++ [((m.next:Int),f)]
 next:m'.next=m.next+1
 waits:m'.waits=m.waits
 calls:m'.calls=m.calls
 room:m'.s.pl.room=m.s.pl.room
 many:many m'.s.pl.slots=many m.s.pl.slots
 vars:m'.s.vars=m.s.vars
 lev:m'.s.lev=m.s.lev
 fresh:m'.fresh=m.fresh
 fn:∀ h,m'.fn h=if h=(m.next:Int) then some φ else m.fn h
theorem SameG.meOk {G G':Gr} (h:SameG G G') {me:Memo} (o:MeOk S G me):MeOk S G' me:=fun i e he=>by
 obtain ⟨h1,h2,h3,h4,h5⟩:=o i e he
 refine ⟨h.val.2 h1,h.val.2 h2,h.val.2 h3,h.val.2 h4,?_⟩
 rw [h.den,h.den,h.den,h.den,h5]
theorem Snd.give (h:Snd S n c m) (hb:m.hs.length<1152921504606846976) (hc:c<big) {f:Nat} (hf:val m.s.nd f):∃ m',m.give f=some (m',m.next)∧Snd S n (c+1) m'∧Given m m' (den m.s.nd f):=by
 obtain ⟨s',r,ok,re⟩:=h.ok.hold hf hb
 have hnew:∀ p ∈ m.hs,p.1≠(m.next:Int):=fun p hp=>by have:=(h.keys p hp).2.1;omega
 have hof:∀ k,Mg.of { m with s:=s',hs:=m.hs ++ [((m.next:Int),f)],next:=m.next+1 } k=if k=(m.next:Int) then some f else m.of k:=fun k=>of_append hnew
 have hn:=h.next
 have hrefs:∀ i,i≠0→Qv s'.nd i=cntH (m.hs ++ [((m.next:Int),f)]) i:=fun i hi=>by
  have hcnt:cntH (m.hs ++ [((m.next:Int),f)]) i=cntH m.hs i+(if f / 2=i then 1 else 0):=by
   unfold cntH
   rw [List.filter_append,yG]
   by_cases e:f / 2=i
   · rw [if_pos e,List.filter_cons_of_pos (by simpa using e)];simp
   · rw [if_neg e,List.filter_cons_of_neg (by simpa using e)];simp
  rw [hcnt,← h.refs i hi]
  cases hs:m.s.nd i with
  | some k =>
    rw [re.refs i (by rw [hs];rfl)]
    unfold Kd
    by_cases e:i=f / 2
    · rw [if_pos e,if_pos e.symm]
    · rw [if_neg e,if_neg (fun q=>e q.symm)];omega
  | none =>
    have e:f / 2≠i:=by
     rintro rfl
     rcases hf with h0|h0
     · exact hi h0
     · rw [hs] at h0;cases h0
    rw [if_neg e]
    unfold Qv
    rw [re.same.none hs,hs];rfl
 refine ⟨{ m with s:=s',hs:=m.hs ++ [((m.next:Int),f)],next:=m.next+1 },?_,⟨?_,?_,?_,?_,?_,?_,?_,?_,?_,?_⟩,⟨⟨f,rfl⟩,rfl,rfl,rfl,re.room,re.many,re.vars,re.lev,rfl,?_⟩⟩
 · unfold Mg.give
   rw [if_neg (by omega),r];rfl
 · show StOk (m.hs ++ [_]).length s'
   rw [yG];exact ok
 · exact re.same.meOk h.me
 · show s'.vars.length=n
   rw [re.vars];exact h.vars
 · intro p hp
   have hp:p ∈ m.hs ++ [((m.next:Int),f)]:=hp
   rcases List.mem_append.1 hp with hp|hp
   · obtain ⟨h1,h2,h3⟩:=h.keys p hp
     exact ⟨h1,by show p.1<((m.next+1:Nat):Int);omega,re.same.val.2 h3⟩
   · rw [List.mem_singleton] at hp
     subst hp
     exact ⟨by show (0:Int)≤(m.next:Int);omega,by show (m.next:Int)<((m.next+1:Nat):Int);omega,re.same.val.2 hf⟩
 · show ((m.hs ++ [((m.next:Int),f)]).map (·.1)).Nodup
   rw [List.map_append]
   refine List.nodup_append.2 ⟨h.nodup,by simp,fun a ha b hb=>?_⟩
   obtain ⟨p,hp,rfl⟩:=List.mem_map.1 ha
   simp at hb;subst hb
   exact hnew p hp
 · exact hrefs
 · rw [hof,if_neg (by omega)];exact h.c0
 · rw [hof,if_neg (by omega)];exact h.c1
 · exact h.ev
 · exact ⟨by show 2≤m.next+1;omega,by show m.next+1≤c+1;omega⟩
 · intro k
   have:Mg.fn { m with s:=s',hs:=m.hs ++ [((m.next:Int),f)],next:=m.next+1 } k=(if k=(m.next:Int) then some f else m.of k).map (den s'.nd):=by rw [← hof k];rfl
   rw [this]
   by_cases e:k=(m.next:Int)
   · rw [if_pos e,if_pos e,Option.map_some,re.same.den]
   · rw [if_neg e,if_neg e]
     exact map_on fun a _=>re.same.den a
theorem Snd.mono {c':Nat} (h:Snd S n c m) (hc:c≤c'):Snd S n c' m:=⟨h.ok,h.me,h.vars,h.keys,h.nodup,h.refs,h.c0,h.c1,h.ev,⟨h.next.1,by have:=h.next.2;omega⟩⟩
theorem Snd.copy (h:Snd S n c m) (hb:m.hs.length<1152921504606846976) (hc:c<big) {k:Int} {φ:Fn} (hk:m.fn k=some φ):∃ m',m.copy k=some (m',m.next,0)∧Snd S n (c+1) m'∧Given m m' φ:=by
 unfold Mg.fn at hk
 cases ho:m.of k with
 | none=>rw [ho] at hk;cases hk
 | some f =>
   rw [ho] at hk
   injection hk with hk
   obtain ⟨m',r,h1,h2⟩:=h.give hb hc (of_val h ho)
   rw [hk] at h2
   refine ⟨m',?_,h1,h2⟩
   unfold Mg.copy
   simp only [ho,r,Option.map_some]
theorem Snd.do_ {K:Nat} {F:Mg→Step Nat} {R:Mg→Nat ⊕ Nat→Prop} (h:Snd S n c m) (hb:m.hs.length<1152921504606846976) (hc:c<big) (hw:m.waits.length<1000000)
  (hF:∀ m',Snd S n c m'→m'.fn=m.fn→m'.hs=m.hs→Runs S m.hs.length K m' (F m') R) (hroom:m.hs.length * 2 ^ (n+1)+K≤m.s.pl.room) (hv:∀ m' r,R m' (.inl r)→val m'.s.nd r) :
  ∃ m' x,Snd S n c m'∧m'.fn=m.fn∧m'.hs=m.hs∧m'.next=m.next∧m'.s.pl.room=m.s.pl.room∧m'.fresh=m.fresh∧(∃ l,m.waits=l ++ m'.waits)∧R m' x ∧
    match x with
    | .inr e=>m.do_ F=some (m',0,e)
    | .inl f=>∃ m2,m.do_ F=some (m2,m.next,0)∧Snd S n (c+1) m2∧Given m' m2 (den m'.s.nd f):=by
 obtain ⟨m',x,h1,h2,h3,h4,h5,h6,h7,h8f,h8⟩:=Snd.run hb hF fuel false m h rfl rfl (fun h=>by cases h) hroom (by
  have:2000002<fuel:=(by decide)
  simp only [Bool.false_eq_true,if_false];omega)
 refine ⟨m',x,h3,h4,h5,h6,h7,h8f,h8,h2,?_⟩
 cases x with
 | inr e=>show m.do_ F=_;unfold Mg.do_;rw [h1]
 | inl f =>
   have hf:=hv m' f h2
   obtain ⟨m2,r,h9,h10⟩:=h3.give (by rw [h5];exact hb) hc hf
   refine ⟨m2,?_,h9,h10⟩
   unfold Mg.do_
   rw [h1]
   simp only [is_nat hf,if_true,r,Option.map_some,h6]
theorem StOk.evalE {B:Nat} {s:St} (h:StOk B s) (l:List Bool):∀ (k f:Nat),val s.nd f→rkf (lvf s) s.nd (f / 2)<k→s.evalE k f l=some (den s.nd f (fun v=>l.getD v false))
 | 0,f,_,hk=>by omega
 | k+1,f,hf,hk=>by
   unfold St.evalE
   by_cases h0:f / 2=0
   · rw [if_pos h0,Kf h.can.g0 h0]
     congr 1
     rcases Nat.mod_two_eq_zero_or_one f with e|e
     · rw [show f=0 by omega]
     · rw [show f=1 by omega]
   · rw [if_neg h0]
     cases hn:s.nd (f / 2) with
     | none =>
       rcases hf with e|e
       · exact absurd e h0
       · rw [hn] at e;cases e
     | some n =>
       have ha:s.at_ f=some (n.v,flipIf n.lo (f % 2 == 1),flipIf n.hi (f % 2 == 1)):=by unfold St.at_;rw [hn];rfl
       rw [ha]
       simp only []
       have hk2:=h.can.toAcyc.kid hn (l.getD n.v false)
       have e:(if l.getD n.v false=true then flipIf n.hi (f % 2 == 1) else flipIf n.lo (f % 2 == 1))=flipIf (if l.getD n.v false=true then n.hi else n.lo) (f % 2 == 1):=by split <;> rfl
       rw [e,h.evalE l k _ (val_flipIf.2 hk2.1) ?_]
       · rw [Kv,Yk h.can.toAcyc hn]
       · rw [Km]
         by_cases hz:(if l.getD n.v false=true then n.hi else n.lo) / 2=0
         · rw [hz]
           have hr:rkf (lvf s) s.nd 0=0:=by unfold rkf;rw [h.can.g0]
           have:0<rkf (lvf s) s.nd (f / 2):=by
            rw [rkf_some hn]
            have:=(h.pm.lv _ (h.vars _ _ hn)).1
            have:=h.pm.le
            omega
           omega
         · have:=hk2.2 hz
           omega
theorem Snd.eval (h:Snd S n c m) {k:Int} {φ:Fn} (hk:m.fn k=some φ) (l:List Bool):m.eval k l=some (φ (fun v=>l.getD v false),0):=by
 unfold Mg.fn at hk
 cases ho:m.of k with
 | none=>rw [ho] at hk;cases hk
 | some f =>
   rw [ho] at hk
   injection hk with hk
   unfold Mg.eval
   simp only [ho]
   rw [h.ok.evalE l fuel f (of_val h ho) (by have:=rkf_top (lvf m.s) m.s.nd (f / 2);omega),hk];rfl
theorem Snd.varR (h:Snd S n c m) {v:Nat} (hv:v<n):Runs S m.hs.length 1 m (m.mk_ v 1 0) (Isf fun ρ=>ρ v):=by
 have g0:=h.ok.can.g0
 have ind:∀ e,e / 2=0→∀ x,Indep (den m.s.nd e) x:=fun e he x=>indep_const g0 he x
 have:=Mg.mk_ok (S:=S) h.ok h.me (v:=v) (lo:=1) (hi:=0) (by rw [h.vars];exact hv) (.inl rfl) (.inl rfl) (fun x _ _=>ind 1 rfl x) (fun x _ _=>ind 0 rfl x)
 refine this.mono (Nat.le_refl _) fun m' y _ hy=>?_
 cases y with
 | inr e=>exact hy
 | inl r =>
   refine ⟨hy.1,hy.2.trans (funext fun ρ=>?_)⟩
   unfold ite3
   rw [den_zero g0,den_one g0]
   cases ρ v <;> rfl
theorem Snd.iteR (hS1:∀ φ ψ χ,S 1 φ ψ χ=iteF φ ψ χ) (h:Snd S n c m) {f g k:Nat} (hf:val m.s.nd f) (hg:val m.s.nd g) (hk:val m.s.nd k):Runs S m.hs.length (2 ^ n - 1) m (m.ite fuel f g k) (Isf (iteF (den m.s.nd f) (den m.s.nd g) (den m.s.nd k))):=by
 have:=Mg.ite_ok hS1 (B:=m.hs.length) fuel 0 m f g k h.ok h.me hf hg hk (Nat.zero_le _) (Nat.zero_le _) (Nat.zero_le _) (Nat.zero_le _) (by
  have h1:=h.ok.pm.le
  have:65<fuel:=(by decide)
  omega)
 rwa [h.vars,Nat.sub_zero] at this
theorem Snd.edgeR (h:Snd S n c m) {k:Int} {φ:Fn} (hk:m.fn k=some φ):Runs S m.hs.length 0 m (m.edge k) (Isf φ):=by
 unfold Mg.fn at hk
 unfold Mg.edge
 cases ho:m.of k with
 | none=>rw [ho] at hk;cases hk
 | some f =>
   rw [ho] at hk
   injection hk with hk
   exact Runs.pure h.ok h.me ⟨of_val h ho,hk⟩
theorem Snd.ofGrew {K:Nat} {m':Mg} (h:Snd S n c m) (g:Grew S m.hs.length K m m') (hw:m'.waits=m.waits):Snd S n c m':=(h.grew g (fun e he=>by rw [hw] at he;exact he)).1
theorem Snd.same (h:Snd S n c m) {k j:Int} {φ ψ:Fn} (hk:m.fn k=some φ) (hj:m.fn j=some ψ):∃ b,m.same k j=(b,0)∧(b=true↔φ=ψ):=by
 unfold Mg.fn at hk hj
 cases ho:m.of k with
 | none=>rw [ho] at hk;cases hk
 | some f =>
   cases hp:m.of j with
   | none=>rw [hp] at hj;cases hj
   | some g =>
     rw [ho] at hk
     rw [hp] at hj
     injection hk with hk
     injection hj with hj
     refine ⟨f == g,?_,?_⟩
     · unfold Mg.same;rw [ho,hp]
     · rw [beq_iff_eq,← hk,← hj]
       exact ⟨fun e=>by rw [e],fun e=>h.ok.can.can f g (of_val h ho) (of_val h hp) fun ρ=>congrFun e ρ⟩
theorem Snd.new {n room:Nat} (hn:n≤64) (h1:1≤room) (hr:room≤1048576):Snd S n 2 (Mg.new n room)∧∀ k,(Mg.new n room).fn k=if k=0 then some (fun _=>false) else if k=1 then some (fun _=>true) else none:=by
 have hof:∀ k,(Mg.new n room).of k=if k=0 then some 1 else if k=1 then some 0 else none:=fun k=>by
  unfold Mg.of Mg.new
  by_cases e0:k=0
  · subst e0;rfl
  · by_cases e1:k=1
    · subst e1;rfl
    · have:([(0,1),(1,0)]:List (Int × Nat)).find? (fun p=>p.1 == k)=none:=List.find?_eq_none.2 (by simp;omega)
      simp only [this,if_neg e0,if_neg e1];rfl
 have hnd:=nd_new n room
 refine ⟨⟨(StOk.new hn h1 hr).mono (Nat.zero_le _),MeOk.none _ _,(by show (List.range n).length=n;simp),?_,(by show ([0,1]:List Int).Nodup;decide),?_,hof 0,hof 1,(by intro e he;cases he),⟨Nat.le_refl _,Nat.le_refl _⟩⟩,fun k=>?_⟩
 · intro p hp
   have hp:p ∈ [((0:Int),1),(1,0)]:=hp
   simp only [List.mem_cons,List.not_mem_nil,or_false] at hp
   rcases hp with rfl|rfl
   · exact ⟨by decide,by show (0:Int)<((2:Nat):Int);decide,.inl rfl⟩
   · exact ⟨by decide,by show (1:Int)<((2:Nat):Int);decide,.inl rfl⟩
 · intro i hi
   have h0:Qv (Mg.new n room).s.nd i=0:=by unfold Qv;show (match (St.new n room).nd i with|some n=>(n.refs:Int)|none=>0)=0;rw [hnd]
   rw [h0]
   unfold cntH Mg.new
   rw [List.filter_eq_nil_iff.2]
   · rfl
   · intro p hp
     simp only [List.mem_cons,List.not_mem_nil,or_false] at hp
     rcases hp with rfl|rfl <;> simp <;> omega
 · have h2:(Mg.new n room).fn k=(if k=0 then some 1 else if k=1 then some 0 else none).map (den (St.new n room).nd):=by rw [← hof k];rfl
   rw [h2]
   have g0:(St.new n room).nd 0=none:=hnd 0
   by_cases e0:k=0
   · rw [if_pos e0,if_pos e0,Option.map_some]
     exact congrArg some (funext fun ρ=>den_one g0 ρ)
   · rw [if_neg e0,if_neg e0]
     by_cases e1:k=1
     · rw [if_pos e1,if_pos e1,Option.map_some]
       exact congrArg some (funext fun ρ=>den_zero g0 ρ)
     · rw [if_neg e1,if_neg e1];rfl
end G
namespace G
variable {S:Sem} {n:Nat} {m m':Mg}
abbrev Sd (S:Sem) (n:Nat) (m:Mg):Prop:=Snd S n m.next m
structure New (S:Sem) (n:Nat) (m m':Mg) (h:Nat) (φ:Fn) (cost:Nat):Prop where
 ok:Sd S n m'
 len:m'.hs.length=m.hs.length+1
 ge:m.next≤h
 lt:h<m'.next
 cost:m'.next≤m.next+cost
 waits:∃ l,m.waits=l ++ m'.waits
 room:m'.s.pl.room=m.s.pl.room
 fresh:m'.fresh=m.fresh
 fn:∀ k,m'.fn k=if k=(h:Int) then some φ else m.fn k
theorem Given.new {c:Nat} {φ:Fn} (g:Given m m' φ) (h:Snd S n c m') (hm:m.next=c - 1∨m'.next=m.next+1):New S n m m' m.next φ 1 where
 ok:=⟨h.ok,h.me,h.vars,h.keys,h.nodup,h.refs,h.c0,h.c1,h.ev,⟨h.next.1,Nat.le_refl _⟩⟩
 len:=by obtain ⟨f,hf⟩:=g.hs;rw [hf];simp
 ge:=Nat.le_refl _
 lt:=by rw [g.next];omega
 cost:=by rw [g.next];exact Nat.le_refl _
 waits:=⟨[],by rw [g.waits];rfl⟩
 room:=g.room
 fresh:=g.fresh
 fn:=g.fn
theorem doR_ok {K:Nat} {F:Mg→Step Nat} {φ:Fn} (h:Sd S n m) (hw:m.waits.length<1000000) (hb:m.hs.length<1000000) (hc:m.next<big) (hroom:m.hs.length * 2 ^ (n+1)+K≤m.s.pl.room)
  (hF:∀ m',Snd S n m.next m'→m'.fn=m.fn→m'.hs=m.hs→Runs S m'.hs.length K m' (F m') (Isf φ)):∃ m',m.do_ F=some (m',m.next,0)∧New S n m m' m.next φ 1:=by
 obtain ⟨m1,x,q1,q2,q3,q4,q5,q6,q7,q8,q9⟩:=h.do_ (R:=Isf φ) (by omega) hc hw (fun m' a b d=>by rw [← d];exact hF m' a b d) hroom (fun m' r hr=>hr.1)
 cases x with
 | inr e=>exact q8.elim
 | inl f =>
   obtain ⟨m2,r,h1,h2⟩:=q9
   rw [q8.2] at h2
   have:=h2.new h1 (.inr h2.next)
   rw [q4] at this
   refine ⟨m2,r,⟨this.ok,by rw [this.len,q3],Nat.le_refl _,by have:=this.lt;rw [h2.next,q4] at this ⊢;omega,by rw [h2.next,q4];exact Nat.le_refl _,?_,this.room.trans q5,this.fresh.trans q6,fun k=>?_⟩⟩
   · obtain ⟨l,hl⟩:=q7
     exact ⟨l,by rw [h2.waits];exact hl⟩
   · rw [h2.fn,q4,q2]
theorem var_ok (h:Sd S n m) (hw:m.waits.length<1000000) (hb:m.hs.length<1000000) (hc:m.next<big) (hroom:m.hs.length * 2 ^ (n+1)+1≤m.s.pl.room) {v:Nat} (hv:v<n):∃ m',m.var_ v=some (m',m.next,0)∧New S n m m' m.next (fun ρ=>ρ v) 1:=by
 unfold Mg.var_
 rw [h.ok.pm.level_nat (by rw [h.vars];exact hv),if_neg (by omega)]
 exact doR_ok h hw hb hc hroom fun m' a _ _=>a.varR hv
theorem iteH_ok (hS1:∀ φ ψ χ,S 1 φ ψ χ=iteF φ ψ χ) (h:Sd S n m) (hw:m.waits.length<1000000) (hb:m.hs.length<1000000) (hc:m.next<big) (hroom:m.hs.length * 2 ^ (n+1)+2 ^ n≤m.s.pl.room) {f g k:Int} {φ ψ χ:Fn} (hf:m.fn f=some φ) (hg:m.fn g=some ψ) (hk:m.fn k=some χ) :
  ∃ m',m.iteH f g k=some (m',m.next,0)∧New S n m m' m.next (iteF φ ψ χ) 1:=by
 unfold Mg.iteH
 refine doR_ok h hw hb hc hroom fun m' a b d=>?_
 have edge:∀ (k:Int) (φ:Fn),m.fn k=some φ→∃ e,m'.of k=some e∧val m'.s.nd e∧den m'.s.nd e=φ:=fun k φ hk=>by
  have hk:m'.fn k=some φ:=by rw [b];exact hk
  unfold Mg.fn at hk
  cases ho:m'.of k with
  | none=>rw [ho] at hk;cases hk
  | some e=>rw [ho] at hk;injection hk with hk;exact ⟨e,rfl,of_val a ho,hk⟩
 obtain ⟨ef,h1,h2,h3⟩:=edge f φ hf
 obtain ⟨eg,h4,h5,h6⟩:=edge g ψ hg
 obtain ⟨ek,h7,h8,h9⟩:=edge k χ hk
 have he:(m'.edge f).then (fun m a=>(m.edge g).then fun m b=>(m.edge k).then fun m c=>m.ite fuel a b c)=m'.ite fuel ef eg ek:=by
  unfold Mg.edge
  simp only [h1,Step.then,h4,h7]
 rw [he]
 have:=a.iteR hS1 h2 h5 h8
 rw [h3,h6,h9] at this
 exact this.mono (Nat.sub_le _ _) fun _ _ _ h=>h
inductive Ex where
 | mk (op var:Int) (kids:List Ex)
mutual
def Ex.sz:Ex→Nat
 | .mk _ _ ks=>Ex.szs ks+1
def Ex.szs:List Ex→Nat
 | []=>0
 | k::ks=>k.sz+Ex.szs ks
end
def foldV (op:Int) (b:Bool) (vs:List Bool):Bool:=if op=5 then vs.foldl (fun a b=>a && b) b else if op=6 then vs.foldl (fun a b=>a || b) b else vs.foldl (fun a b=>a ^^ b) b
def opV (ρ:Nat→Bool) (op var:Int) (vs:List Bool):Bool :=
 if op=1 then true else if op=2 then false else if op=3 then ρ var.toNat else if op=5∨op=6∨op=7 then foldV op (op == 5) vs
 else if op=4 then !(vs.getD 0 false) else if op=8 then (!(vs.getD 0 false) || vs.getD 1 false) else if op=9 then (vs.getD 0 false == vs.getD 1 false) else if vs.getD 0 false then vs.getD 1 false else vs.getD 2 false
mutual
def Ex.v (ρ:Nat→Bool):Ex→Bool
 | .mk op var ks=>opV ρ op var (Ex.vs ρ ks)
def Ex.vs (ρ:Nat→Bool):List Ex→List Bool
 | []=>[]
 | k::ks=>k.v ρ::Ex.vs ρ ks
end
end G
namespace G
variable {S:Sem} {n H:Nat} {m m':Mg}
structure Fit (n H:Nat) (m:Mg) (k q:Nat):Prop where
 hs:m.hs.length+k≤H
 lim:H<1000000
 room:H * 2 ^ (n+1)+2 ^ n≤m.s.pl.room
 waits:m.waits.length<1000000
 next:m.next+q<1000000000000
theorem Fit.step {k q:Nat} (f:Fit n H m k q) {k' q':Nat} (hh:m'.hs.length+k'≤m.hs.length+k) (hr:m'.s.pl.room=m.s.pl.room) (hw:∃ l,m.waits=l ++ m'.waits) (hn:m'.next+q'≤m.next+q):Fit n H m' k' q' :=
 ⟨by have:=f.hs;omega,f.lim,by rw [hr];exact f.room,by obtain ⟨l,hl⟩:=hw;have:=f.waits;rw [hl,yG] at this;omega,by have:=f.next;omega⟩
theorem Fit.rm {k q:Nat} (f:Fit n H m k q):m.hs.length * 2 ^ (n+1)+2 ^ n≤m.s.pl.room:=by
 have h1:=f.hs
 have h2:=f.room
 have h3:m.hs.length * 2 ^ (n+1)≤H * 2 ^ (n+1):=Nat.mul_le_mul_right _ (by omega)
 omega
theorem Fit.lt {k q:Nat} (f:Fit n H m k q):m.hs.length<1000000∧m.next<big:=by
 have:=f.hs;have:=f.lim;have:=f.next
 have:(1000000000000:Nat)<big:=(by decide)
 omega
theorem Fit.ite {k q:Nat} (f:Fit n H m k q) (hS1:∀ φ ψ χ,S 1 φ ψ χ=iteF φ ψ χ) (h:Sd S n m) {a b c:Int} {φ ψ χ:Fn} (ha:m.fn a=some φ) (hb:m.fn b=some ψ) (hc:m.fn c=some χ):∃ m',m.iteH a b c=some (m',m.next,0)∧New S n m m' m.next (iteF φ ψ χ) 1 :=
 iteH_ok hS1 h f.waits f.lt.1 f.lt.2 f.rm ha hb hc
end G
namespace G
variable {S:Sem} {n:Nat} {m m':Mg}
end G
section
open Go.RowKit
theorem ddnew_any (n room:Nat) {E w:World} {I:PH} {ms:List PH} (hn:n≤64) (h1:1≤room) (h2:room≤1048576) (hS:Sat E I ms w) :
  Calls Tryz.prog 26 #[nv n,nv room] w fun e w'=>∃ X p,e=.returned (.tuple #[vPt X,.int .i64 0])∧MgAt X (G.Mg.new n room) p∧Sat E I (p::ms) w':=by
 have HN:=yH (snew_ok (E:=E) (I:=I) (ms:=ms) (w:=w) n room hn h1 h2 hS)
 clear hn h1 h2 hS
 go_enter Tryz.func26,Tryz.ntmps26
 go_wp2_with (first
  | (go_at_call 69;(with_reducible refine yI HN.out ?_);rintro e w ⟨S,mS,rfl,hSt,hS⟩;have HSt:=yH hSt;clear hSt)
  | ((with_reducible refine isMakeMap ?_);refine mkM ikey hS rfl rfl ?_;clear hS;intro H w hS;(try simp only [Act.put,zE,zF,zG]))
  | ((with_reducible refine isInsert ?_);refine inNew (x:=0) (l:=[]) hS 0 rfl kI Tryz.underlying115 rfl rfl rfl rfl rfl MapOk.nil rfl ?_;clear hS;intro w hS;(try simp only [zG,Act.eval] at hS);(try simp only [Act.put]))
  | ((with_reducible refine isInsert ?_);refine inNew (x:=1) (l:=h0R) hS 0 rfl kI Tryz.underlying115 rfl rfl rfl rfl rfl h0R_ok rfl ?_;clear hS;intro w hS;(try simp only [zG,Act.eval] at hS);(try simp only [Act.put]))
  | (go_at_call 70;(with_reducible refine yI (Go.Proofs.YtidamcdklgfogaaGreat.mnew_any _ _ _ _ hS) ?_);clear hS;rintro e w ⟨M,rfl,hS⟩)
  | ((with_reducible refine Qc ?_);  ((with_reducible refine Za 23 ?_);refine bx hS rfl rfl rfl ?_;clear hS;intro X w hS;(try simp only [Act.eval,zD,zC,zA,zB,zJ,Value.cells] at hS);(try simp only [Act.put,zE,zF,zG])) ))
 go_ret2
 have hS0:=(hS.pick 1 rfl).empty
 simp only [List.eraseIdx_cons_succ,List.eraseIdx_cons_zero] at hS0
 obtain ⟨mM,hbM,hS1⟩:=Sat.pack [PH.one M (.cells #[.int .i64 4096,.slice none 0 0,.int .i64 0,.int .i64 0] 184),Xc] (hS0.perm (List.Perm.swap _ _ _))
 have hS2:=hS1.empty.pick 3 rfl
 simp only [List.eraseIdx_cons_succ,List.eraseIdx_cons_zero] at hS2
 have hS3:=hS2.pick 2 rfl
 simp only [List.eraseIdx_cons_succ,List.eraseIdx_cons_zero] at hS3
 have hS4:=hS3.pick 4 rfl
 simp only [List.eraseIdx_cons_succ,List.eraseIdx_cons_zero] at hS4
 have hS5:=hS4.pick 4 rfl
 simp only [List.eraseIdx_cons_succ,List.eraseIdx_cons_zero] at hS5
 obtain ⟨p,hA,hS6⟩:=MgAt.close (m:=G.Mg.new n room) (D:=X) (S:=S) (M:=M) (H:=H) (wv:=.slice none 0 0) (mW:=Xc) ⟨by show 2≤G.big;decide,by show (-9223372036854775808:Int)≤0;decide,by show (0:Int)≤9223372036854775807;decide⟩ HSt.out ⟨MeFit.none,.slice none 0 0,Xc,0,0,hbM,.inl ⟨rfl,rfl,rfl⟩⟩ ⟨_,_,rfl,⟨by decide,by decide,by decide⟩,by rfl⟩ ⟨⟨_,_,rfl⟩,fun h=>absurd h (Nat.lt_irrefl 0),fun _=>⟨rfl,rfl⟩⟩ hS5
 exact ⟨X,p,rfl,hA,hS6⟩
theorem gevC_len (e:G.Ev):(gevC e).length=3:=rfl
theorem WtR.row {I:PH} {A:Option Addr} {c:Nat} {l:List G.Ev} {fr:Bool} (h:WtR I (.slice A l.length c) l fr):0<l.length→∃ X off,A=some ⟨X,off,none⟩∧Cells I X off (l.flatMap gevC):=fun hl=>by
 obtain ⟨X,off,c',hv,h2,h3⟩:=h.2.1 hl
 injection hv with e1
 refine ⟨X,off,e1,fun j v hj=>?_⟩
 have hjl:j<(l.flatMap gevC).length:=(yE.1 hj).1
 rw [Zq gevC_len] at hjl
 obtain ⟨e,he⟩:∃ e,l[j / 3]?=some e:=⟨_,yA (by omega)⟩
 have hc:=h3 (j / 3) e he
 have hg:=flat_get gevC_len l (j / 3) e he
 have hj2:(gevC e)[j % 3]?=some v:=by
  rw [← hg,List.getElem?_take,if_pos (by omega),List.getElem?_drop,← hj]
  congr 1
  omega
 have:=hc.at (j % 3) hj2
 rwa [show off+j / 3 * 3+j % 3=off+j by omega] at this
end
end Go.Proofs.YtidamcdklgfogaaGreat
