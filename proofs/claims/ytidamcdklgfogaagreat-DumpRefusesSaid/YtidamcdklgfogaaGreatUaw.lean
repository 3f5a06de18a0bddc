import Derived.Test.YtidamcdklgfogaaGreatUav
set_option linter.unusedVariables false
set_option linter.unusedSimpArgs false
namespace Go.Proofs.YtidamcdklgfogaaGreat
namespace G
variable{S:Sem} {n c:Nat} {m:Mg}
theorem of_append{hs:List (Int×Nat)}{k h:Int}{f:Nat}(hk:∀p∈hs,p.1≠k):((hs++[(k,f)]).find? λp=>p.1==h).map (·.2)=if h=k then some f else (hs.find? λp=>p.1==h).map (·.2):=by
 rw[kW];by_cases e:h=k
 . subst e
   have:hs.find? (λp=>p.1==h)=none:=kAa.2 λp hp=>by simpa using hk p hp
   rw[this,jAb rfl];simp
 . rw[jAa e]
   have:([(k,f)]:List (Int×Nat)).find? (λp=>p.1==h)=none:=by simp;omega
   rw[this];simp
structure Given (m m':Mg) (φ:Fn):Prop where
 hs:∃f,m'.hs=m.hs++[((m.next:Int),f)]
 next:m'.next=m.next+1
 waits:m'.waits=m.waits
 calls:m'.calls=m.calls
 room:m'.s.pl.room=m.s.pl.room
 many:many m'.s.pl.slots=many m.s.pl.slots
 vars:m'.s.vars=m.s.vars
 lev:m'.s.lev=m.s.lev
 fresh:m'.fresh=m.fresh
 fn:∀h,m'.fn h=if h=(m.next:Int) then some φ else m.fn h
theorem SameG.meOk{G G':Gr}(h:SameG G G'){me:Memo}(o:MeOk S G me):MeOk S G' me:=λi e he=>by
 obtain⟨h1,h2,h3,h4,h5⟩:=o i e he;refine⟨h.val.2 h1,h.val.2 h2,h.val.2 h3,h.val.2 h4,?_⟩;rw[h.den,h.den,h.den,h.den,h5]
theorem Snd.give(h:Snd S n c m)(hb:m.hs.length<1152921504606846976)(hc:c<big){f:Nat}(hf:val m.s.nd f):∃m',m.give f=some (m',m.next)/\Snd S n (c+1) m'/\Given m m' (den m.s.nd f):=by
 obtain⟨s',r,ok,re⟩:=h.ok.hold hf hb;have hnew:∀p∈m.hs,p.1≠(m.next:Int):=λp hp=>by have:=(h.keys p hp).2.1;omega
 have hof:∀k,Mg.of { m with s:=s',hs:=m.hs++[((m.next:Int),f)],next:=m.next+1 } k=if k=(m.next:Int) then some f else m.of k:=λk=>of_append hnew
 have hn:=h.next;have hrefs:∀i,i≠0->Qg s'.nd i=cntH (m.hs++[((m.next:Int),f)]) i:=λi hi=>by
  have hcnt:cntH (m.hs++[((m.next:Int),f)]) i=cntH m.hs i+(if f/2=i then 1 else 0):=by
   unfold cntH;rw[qBb,yG];by_cases e:f/2=i
   . rw[jAb e,kCb (by simpa using e)];simp
   . rw[jAa e,kD (by simpa using e)];simp
  rw[hcnt,<- h.refs i hi];cases hs:m.s.nd i with
  | some k =>
    rw[re.refs i (by rw[hs];rfl)];unfold Qt;by_cases e:i=f/2
    . rw[jAb e,jAb e.symm]
    . rw[jAa e,jAa (λq=>e q.symm)];omega
  | none =>
    have e:f/2≠i:=by
     rintro rfl;rcases hf with h0|h0
     . exact hi h0
     . rw[hs] at h0;cases h0
    rw[jAa e];unfold Qg;rw[re.same.none hs,hs];rfl
 refine⟨{ m with s:=s',hs:=m.hs++[((m.next:Int),f)],next:=m.next+1 },?_,⟨?_,?_,?_,?_,?_,?_,?_,?_,?_,?_⟩,⟨⟨f,rfl⟩,rfl,rfl,rfl,re.room,re.many,re.vars,re.lev,rfl,?_⟩⟩
 . unfold Mg.give
   rw[jAa (by omega),r];rfl
 . show StOk (m.hs++[_]).length s'
   rw[yG];exact ok
 . exact re.same.meOk h.me
 . show s'.vars.length=n
   rw[re.vars];exact h.vars
 . intro p hp
   have hp:p∈m.hs++[((m.next:Int),f)]:=hp;rcases jH.1 hp with hp|hp
   . obtain⟨h1,h2,h3⟩:=h.keys p hp
     exact⟨h1,by show p.1<((m.next+1:Nat):Int);omega,re.same.val.2 h3⟩
   . rw[jKb] at hp
     subst hp;exact⟨by show (0:Int)<=(m.next:Int);omega,by show (m.next:Int)<((m.next+1:Nat):Int);omega,re.same.val.2 hf⟩
 . show ((m.hs++[((m.next:Int),f)]).map (·.1)).Nodup
   rw[jGa];refine jY.2 ⟨h.nodup,by simp,λa ha b hb=>?_⟩;obtain⟨p,hp,rfl⟩:=jF.1 ha;simp at hb;subst hb
   exact hnew p hp
 . exact hrefs
 . rw[hof,jAa (by omega)];exact h.c0
 . rw[hof,jAa (by omega)];exact h.c1
 . exact h.ev
 . exact⟨by show 2<=m.next+1;omega,by show m.next+1<=c+1;omega⟩
 . intro k
   have:Mg.fn { m with s:=s',hs:=m.hs++[((m.next:Int),f)],next:=m.next+1 } k=(if k=(m.next:Int) then some f else m.of k).map (den s'.nd):=by rw[<- hof k];rfl
   rw[this];by_cases e:k=(m.next:Int)
   . rw[jAb e,jAb e,Option.map_some,re.same.den]
   . rw[jAa e,jAa e]
     exact map_on λa _=>re.same.den a
theorem Snd.mono{c':Nat}(h:Snd S n c m)(hc:c<=c'):Snd S n c' m:=⟨h.ok,h.me,h.vars,h.keys,h.nodup,h.refs,h.c0,h.c1,h.ev,⟨h.next.1,by have:=h.next.2;omega⟩⟩
theorem Snd.copy(h:Snd S n c m)(hb:m.hs.length<1152921504606846976)(hc:c<big){k:Int}{φ:Fn}(hk:m.fn k=some φ):∃m',m.copy k=some (m',m.next,0)/\Snd S n (c+1) m'/\Given m m' φ:=by
 unfold Mg.fn at hk;cases ho:m.of k with
 | none=>rw[ho] at hk;cases hk
 | some f =>
   rw[ho] at hk;injection hk with hk
   obtain⟨m',r,h1,h2⟩:=h.give hb hc (of_val h ho);rw[hk] at h2;refine⟨m',?_,h1,h2⟩;unfold Mg.copy;simp only[ho,r,Option.map_some]
theorem Snd.not_(h:Snd S n c m)(hb:m.hs.length<1152921504606846976)(hc:c<big){k:Int}{φ:Fn}(hk:m.fn k=some φ):∃m',m.not_ k=some (m',m.next,0)/\Snd S n (c+1) m'/\Given m m' (λρ=>!φ ρ):=by
 unfold Mg.fn at hk;cases ho:m.of k with
 | none=>rw[ho] at hk;cases hk
 | some f =>
   rw[ho] at hk;injection hk with hk
   obtain⟨m',r,h1,h2⟩:=h.give hb hc (val_flip.2 (of_val h ho));have hd:den m.s.nd (flip f)=λρ=>!φ ρ:=by funext ρ;rw[den_flip,hk]
   rw[hd] at h2;refine⟨m',?_,h1,h2⟩;unfold Mg.not_;simp only[ho,r,Option.map_some]
def Za(hs:List (Int×Nat))(k:Int):List (Int×Nat):=hs.filter λp=>p.1 != k
theorem without_length{k:Int}{f:Nat}:∀{hs:List (Int×Nat)},(hs.map (·.1)).Nodup->(k,f)∈hs->(Za hs k).length+1=hs.length/\∀i,cntH (Za hs k) i=cntH hs i-(if f/2=i then 1 else 0)
 | [],_,h=>by cases h
 | p::hs,hd,h=>by
   rw[jDb,jMa] at hd;have hcons:∀(q:Int×Nat) (l:List (Int×Nat)) (i:Nat),cntH (q::l) i=cntH l i+(if q.2/2=i then 1 else 0):=λq l i=>by
    unfold cntH;by_cases e:q.2/2=i
    . rw[jAb e,kCb (by simpa using e)];simp
    . rw[jAa e,kD (by simpa using e)];simp
   by_cases e:p.1=k
   . have hall:Za (p::hs) k=hs:=by
       unfold Za;rw[kD (by simpa using e),kZb];intro q hq
       have:q.1≠k:=λhqk=>hd.1 (by rw[e,<- hqk];exact jWa hq)
       simpa using this
     have hp:p=(k,f):=by
      rcases jBa.1 h with h|h
      . exact h.symm
      . exact absurd (by rw[e];exact jWa (f:=(·.1)) h) hd.1
     rw[hall];refine⟨rfl,λi=>?_⟩;rw[hcons,hp];split <;> omega
   . have hm:(k,f)∈hs:=by
       rcases jBa.1 h with h|h
       . rw[<- h] at e;exact absurd rfl e
       . exact h
     obtain⟨h1,h2⟩:=without_length hd.2 hm;have hcut:Za (p::hs) k=p::Za hs k:=by
      unfold Za;rw[kCb (by simpa using e)]
     rw[hcut];refine⟨by rw[yB,yB,h1],λi=>?_⟩;rw[hcons,hcons,h2 i];omega
theorem of_without{k h:Int}:∀{hs:List (Int×Nat)},((Za hs k).find? λp=>p.1==h).map (·.2)=if h=k then none else (hs.find? λp=>p.1==h).map (·.2)
 | []=>by simp[Za]
 | p::hs=>by
   have ih:=of_without (k:=k) (h:=h) (hs:=hs);by_cases e:p.1=k
   . have hcut:Za (p::hs) k=Za hs k:=by unfold Za;rw[kD (by simpa using e)]
     rw[hcut,ih];by_cases q:h=k
     . rw[jAb q,jAb q]
     . rw[jAa q,jAa q,jX (by simp;omega)]
   . have hcut:Za (p::hs) k=p::Za hs k:=by unfold Za;rw[kCb (by simpa using e)]
     rw[hcut];by_cases w:p.1=h
     . rw[kKb (by simpa using w),kKb (by simpa using w),jAa (by omega)]
     . rw[jX (by simpa using w),jX (by simpa using w),ih]
structure Lost (m m':Mg) (k:Int):Prop where
 hs:m'.hs=Za m.hs k
 len:m'.hs.length+1=m.hs.length
 next:m'.next=m.next
 waits:m'.waits=m.waits
 calls:m'.calls=m.calls
 room:m'.s.pl.room=m.s.pl.room
 many:many m'.s.pl.slots=many m.s.pl.slots
 vars:m'.s.vars=m.s.vars
 lev:m'.s.lev=m.s.lev
 fresh:m'.fresh=m.fresh
 fn:∀h,m'.fn h=if h=k then none else m.fn h
theorem Snd.drop1(h:Snd S n c m){k:Int}{f:Nat}(hk:m.of k=some f)(h1:1<k):∃s' e,m.s.drop f=some (s',e)/\Snd S n c { m with s:=s',hs:=m.hs.filter λp=>p.1 != k }/\Lost m { m with s:=s',hs:=m.hs.filter λp=>p.1 != k } k:=by
 have hm:=of_mem hk;have hv:=of_val h hk;obtain⟨l1,l2⟩:=without_length h.nodup hm;have key:∃s' e,m.s.drop f=some (s',e)/\StOk m.hs.length s'/\SameG m.s.nd s'.nd/\s'.vars=m.s.vars/\s'.lev=m.s.lev/\s'.pl.room=m.s.pl.room/\G.many s'.pl.slots=G.many m.s.pl.slots/\∀i,i≠0->Qg s'.nd i=cntH m.hs i-(if f/2=i then 1 else 0):=by
  rcases h.ok.drop_cases (f:Int) with⟨h2,_⟩|⟨g,hg,_,h2⟩
  . rw[is_nat hv] at h2;cases h2
  . have hg:g=f:=by omega
    subst hg;rcases h2 with⟨h2,h3⟩|⟨h2,s',h3,h4,h5⟩
    . refine⟨m.s,_,h3,h.ok,SameG.refl _,rfl,rfl,rfl,rfl,λi hi=>?_⟩
      rw[h.refs i hi];by_cases e:g/2=i
      . have:=cntH_pos hm
        rw[show (((k,g):Int×Nat).2)=g from rfl,<- h.refs _ (by rw[e];exact hi),h2] at this;omega
      . rw[jAa e];omega
    . refine⟨s',0,h3,h4,h5.same,h5.vars,h5.lev,h5.room,h5.many,λi hi=>?_⟩
      cases hs:m.s.nd i with
      | some q =>
        rw[h5.refs i (by rw[hs];rfl)];unfold Qt;rw[h.refs i hi];by_cases e:i=g/2
        . rw[jAb e,jAb e.symm];omega
        . rw[jAa e,jAa (λq=>e q.symm)];omega
      | none =>
        have e:g/2≠i:=by
         rintro rfl;rcases hv with h0|h0
         . exact hi h0
         . rw[hs] at h0;cases h0
        rw[jAa e,<- h.refs i hi];unfold Qg;rw[h5.same.none hs,hs];rfl
 obtain⟨s',e,r,ok,same,hvars,hlev,hroom,hmany,hrefs⟩:=key;have hof:∀q,Mg.of { m with s:=s',hs:=Za m.hs k } q=if q=k then none else m.of q:=λq=>of_without
 have hrefs':∀i,i≠0->Qg s'.nd i=cntH (Za m.hs k) i:=λi hi=>by rw[hrefs i hi,l2 i]
 refine⟨s',e,r,⟨?_,same.meOk h.me,hvars ▸ h.vars,?_,?_,hrefs',?_,?_,h.ev,h.next⟩,⟨rfl,l1,rfl,rfl,rfl,hroom,hmany,hvars,hlev,rfl,?_⟩⟩
 . exact ok.rebound λi hi=>by rw[hrefs' i hi];exact cntH_le _ _
 . intro p hp
   obtain⟨h2,h3,h4⟩:=h.keys p (jQ.1 hp).1;exact⟨h2,h3,same.val.2 h4⟩
 . exact (kO.map _).nodup h.nodup
 . have:=hof 0
   rw[jAa (by omega)] at this;exact this.trans h.c0
 . have:=hof 1
   rw[jAa (by omega)] at this;exact this.trans h.c1
 . intro q
   have:Mg.fn { m with s:=s',hs:=Za m.hs k } q=(if q=k then none else m.of q).map (den s'.nd):=by rw[<- hof q];rfl
   refine this.trans ?_;by_cases e:q=k
   . rw[jAb e,jAb e];rfl
   . rw[jAa e,jAa e]
     exact map_on λa _=>same.den a
theorem Snd.do_{K:Nat}{F:Mg->Step Nat}{R:Mg->Nat ⊕ Nat->Prop}(h:Snd S n c m)(hb:m.hs.length<1152921504606846976)(hc:c<big)(hw:m.waits.length<1000000)
  (hF:∀m',Snd S n c m'->m'.fn=m.fn->m'.hs=m.hs->Runs S m.hs.length K m' (F m') R)(hroom:m.hs.length*2^(n+1)+K<=m.s.pl.room)(hv:∀m' r,R m' (.inl r)->val m'.s.nd r) :
  ∃m' x,Snd S n c m'/\m'.fn=m.fn/\m'.hs=m.hs/\m'.next=m.next/\m'.s.pl.room=m.s.pl.room/\m'.fresh=m.fresh/\(∃l,m.waits=l++m'.waits)/\R m' x /\
    match x with
    | .inr e=>m.do_ F=some (m',0,e)
    | .inl f=>∃m2,m.do_ F=some (m2,m.next,0)/\Snd S n (c+1) m2/\Given m' m2 (den m'.s.nd f):=by
 obtain⟨m',x,h1,h2,h3,h4,h5,h6,h7,h8f,h8⟩:=Snd.run hb hF fuel false m h rfl rfl (λh=>by cases h) hroom (by
  have:2000002<fuel:=(by decide);simp only[jFa,jOb];omega)
 refine⟨m',x,h3,h4,h5,h6,h7,h8f,h8,h2,?_⟩;cases x with
 | inr e=>show m.do_ F=_;unfold Mg.do_;rw[h1]
 | inl f =>
   have hf:=hv m' f h2;obtain⟨m2,r,h9,h10⟩:=h3.give (by rw[h5];exact hb) hc hf;refine⟨m2,?_,h9,h10⟩;unfold Mg.do_;rw[h1];simp only[is_nat hf,jEb,r,Option.map_some,h6]
theorem StOk.evalE{B:Nat}{s:St}(h:StOk B s)(l:List Bool):∀(k f:Nat),val s.nd f->rkf (lvf s) s.nd (f/2)<k->s.evalE k f l=some (den s.nd f (λv=>l.getD v false))
 | 0,f,_,hk=>by omega
 | k+1,f,hf,hk=>by
   unfold St.evalE;by_cases h0:f/2=0
   . rw[jAb h0,Qp h.can.g0 h0]
     congr 1
     rcases jKa f with e|e
     . rw[show f=0 by omega]
     . rw[show f=1 by omega]
   . rw[jAa h0]
     cases hn:s.nd (f/2) with
     | none =>
       rcases hf with e|e
       . exact absurd e h0
       . rw[hn] at e;cases e
     | some n =>
       have ha:s.at_ f=some (n.v,flipIf n.lo (f%2==1),flipIf n.hi (f%2==1)):=by unfold St.at_;rw[hn];rfl
       rw[ha];simp only[];have hk2:=h.can.toAcyc.kid hn (l.getD n.v false);have e:(if l.getD n.v false=true then flipIf n.hi (f%2==1) else flipIf n.lo (f%2==1))=flipIf (if l.getD n.v false=true then n.hi else n.lo) (f%2==1):=by split <;> rfl
       rw[e,h.evalE l k _ (val_flipIf.2 hk2.1) ?_]
       . rw[Ke,Xy h.can.toAcyc hn]
       . rw[Qx]
         by_cases hz:(if l.getD n.v false=true then n.hi else n.lo)/2=0
         . rw[hz]
           have hr:rkf (lvf s) s.nd 0=0:=by unfold rkf;rw[h.can.g0]
           have:0<rkf (lvf s) s.nd (f/2):=by
            rw[Xz hn]
            have:=(h.pm.lv _ (h.vars _ _ hn)).1
            have:=h.pm.le;omega
           omega
         . have:=hk2.2 hz
           omega
theorem Snd.eval(h:Snd S n c m){k:Int}{φ:Fn}(hk:m.fn k=some φ)(l:List Bool):m.eval k l=some (φ (λv=>l.getD v false),0):=by
 unfold Mg.fn at hk;cases ho:m.of k with
 | none=>rw[ho] at hk;cases hk
 | some f =>
   rw[ho] at hk;injection hk with hk
   unfold Mg.eval;simp only[ho];rw[h.ok.evalE l fuel f (of_val h ho) (by have:=rkf_top (lvf m.s) m.s.nd (f/2);omega),hk];rfl
theorem Snd.varR(h:Snd S n c m){v:Nat}(hv:v<n):Runs S m.hs.length 1 m (m.mk_ v 1 0) (Isf λρ=>ρ v):=by
 have g0:=h.ok.can.g0;have ind:∀e,e/2=0->∀x,Indep (den m.s.nd e) x:=λe he x=>indep_const g0 he x
 have:=Mg.mk_ok (S:=S) h.ok h.me (v:=v) (lo:=1) (hi:=0) (by rw[h.vars];exact hv) (.inl rfl) (.inl rfl) (λx _ _=>ind 1 rfl x) (λx _ _=>ind 0 rfl x);refine this.mono (jBb _) λm' y _ hy=>?_
 cases y with
 | inr e=>exact hy
 | inl r =>
   refine⟨hy.1,hy.2.trans (funext λρ=>?_)⟩;unfold ite3;rw[den_zero g0,den_one g0];cases ρ v <;> rfl
theorem Snd.iteR(hS1:∀φ ψ χ,S 1 φ ψ χ=iteF φ ψ χ)(h:Snd S n c m){f g k:Nat}(hf:val m.s.nd f)(hg:val m.s.nd g)(hk:val m.s.nd k):Runs S m.hs.length (2^n-1) m (m.ite fuel f g k) (Isf (iteF (den m.s.nd f) (den m.s.nd g) (den m.s.nd k))):=by
 have:=Mg.ite_ok hS1 (B:=m.hs.length) fuel 0 m f g k h.ok h.me hf hg hk (jC _) (jC _) (jC _) (jC _) (by
  have h1:=h.ok.pm.le
  have:65<fuel:=(by decide);omega)
 rwa [h.vars,Nat.sub_zero] at this
theorem Snd.edgeR(h:Snd S n c m){k:Int}{φ:Fn}(hk:m.fn k=some φ):Runs S m.hs.length 0 m (m.edge k) (Isf φ):=by
 unfold Mg.fn at hk;unfold Mg.edge;cases ho:m.of k with
 | none=>rw[ho] at hk;cases hk
 | some f =>
   rw[ho] at hk;injection hk with hk
   exact Runs.pure h.ok h.me ⟨of_val h ho,hk⟩
theorem Snd.ofGrew{K:Nat}{m':Mg}(h:Snd S n c m)(g:Grew S m.hs.length K m m')(hw:m'.waits=m.waits):Snd S n c m':=(h.grew g (λe he=>by rw[hw] at he;exact he)).1
theorem Snd.same(h:Snd S n c m){k j:Int}{φ ψ:Fn}(hk:m.fn k=some φ)(hj:m.fn j=some ψ):∃b,m.same k j=(b,0)/\(b=true↔φ=ψ):=by
 unfold Mg.fn at hk hj;cases ho:m.of k with
 | none=>rw[ho] at hk;cases hk
 | some f =>
   cases hp:m.of j with
   | none=>rw[hp] at hj;cases hj
   | some g =>
     rw[ho] at hk;rw[hp] at hj;injection hk with hk
     injection hj with hj
     refine⟨f==g,?_,?_⟩
     . unfold Mg.same;rw[ho,hp]
     . rw[jRb,<- hk,<- hj]
       exact⟨λe=>by rw[e],λe=>h.ok.can.can f g (of_val h ho) (of_val h hp) λρ=>congrFun e ρ⟩
theorem Snd.new{n room:Nat}(hn:n<=64)(h1:1<=room)(hr:room<=1048576):Snd S n 2 (Mg.new n room)/\∀k,(Mg.new n room).fn k=if k=0 then some (λ_=>false) else if k=1 then some (λ_=>true) else none:=by
 have hof:∀k,(Mg.new n room).of k=if k=0 then some 1 else if k=1 then some 0 else none:=λk=>by
  unfold Mg.of Mg.new;by_cases e0:k=0
  . subst e0;rfl
  . by_cases e1:k=1
    . subst e1;rfl
    . have:([(0,1),(1,0)]:List (Int×Nat)).find? (λp=>p.1==k)=none:=kAa.2 (by simp;omega)
      simp only[this,jAa e0,jAa e1];rfl
 have hnd:=nd_new n room;refine⟨⟨(StOk.new hn h1 hr).mono (jC _),MeOk.none _ _,(by show (List.range n).length=n;simp),?_,(by show ([0,1]:List Int).Nodup;decide),?_,hof 0,hof 1,(by intro e he;cases he),⟨jBb _,jBb _⟩⟩,λk=>?_⟩
 . intro p hp
   have hp:p∈[((0:Int),1),(1,0)]:=hp;simp only[jBa,jCa,jJb] at hp;rcases hp with rfl|rfl
   . exact⟨by decide,by show (0:Int)<((2:Nat):Int);decide,.inl rfl⟩
   . exact⟨by decide,by show (1:Int)<((2:Nat):Int);decide,.inl rfl⟩
 . intro i hi
   have h0:Qg (Mg.new n room).s.nd i=0:=by unfold Qg;show (match (St.new n room).nd i with|some n=>(n.refs:Int)|none=>0)=0;rw[hnd]
   rw[h0];unfold cntH Mg.new;rw[kPa.2]
   . rfl
   . intro p hp
     simp only[jBa,jCa,jJb] at hp;rcases hp with rfl|rfl <;> simp <;> omega
 . have h2:(Mg.new n room).fn k=(if k=0 then some 1 else if k=1 then some 0 else none).map (den (St.new n room).nd):=by rw[<- hof k];rfl
   rw[h2];have g0:(St.new n room).nd 0=none:=hnd 0;by_cases e0:k=0
   . rw[jAb e0,jAb e0,Option.map_some]
     exact jNa some (funext λρ=>den_one g0 ρ)
   . rw[jAa e0,jAa e0]
     by_cases e1:k=1
     . rw[jAb e1,jAb e1,Option.map_some]
       exact jNa some (funext λρ=>den_zero g0 ρ)
     . rw[jAa e1,jAa e1];rfl
end G
namespace G
variable{S:Sem} {n:Nat} {m m':Mg}
abbrev Sd(S:Sem)(n:Nat)(m:Mg):Prop:=Snd S n m.next m
structure New (S:Sem) (n:Nat) (m m':Mg) (h:Nat) (φ:Fn) (cost:Nat):Prop where
 ok:Sd S n m'
 len:m'.hs.length=m.hs.length+1
 ge:m.next<=h
 lt:h<m'.next
 cost:m'.next<=m.next+cost
 waits:∃l,m.waits=l++m'.waits
 room:m'.s.pl.room=m.s.pl.room
 fresh:m'.fresh=m.fresh
 fn:∀k,m'.fn k=if k=(h:Int) then some φ else m.fn k
structure Gone (S:Sem) (n:Nat) (m m':Mg) (k:Int):Prop where
 ok:Sd S n m'
 len:m'.hs.length+1=m.hs.length
 next:m'.next=m.next
 waits:m'.waits=m.waits
 room:m'.s.pl.room=m.s.pl.room
 fresh:m'.fresh=m.fresh
 fn:∀h,m'.fn h=if h=k then none else m.fn h
theorem fn_lt(h:Snd S n m.next m){k:Int}{φ:Fn}(hk:m.fn k=some φ):0<=k/\k<m.next:=by
 unfold Mg.fn at hk;cases ho:m.of k with
 | none=>rw[ho] at hk;cases hk
 | some f=>obtain⟨h1,h2,_⟩:=h.keys _ (of_mem ho);exact⟨h1,h2⟩
theorem Given.new{c:Nat}{φ:Fn}(g:Given m m' φ)(h:Snd S n c m')(hm:m.next=c-1\/m'.next=m.next+1):New S n m m' m.next φ 1 where
 ok:=⟨h.ok,h.me,h.vars,h.keys,h.nodup,h.refs,h.c0,h.c1,h.ev,⟨h.next.1,jBb _⟩⟩
 len:=by obtain⟨f,hf⟩:=g.hs;rw[hf];simp
 ge:=jBb _
 lt:=by rw[g.next];omega
 cost:=by rw[g.next];exact jBb _
 waits:=⟨[],by rw[g.waits];rfl⟩
 room:=g.room
 fresh:=g.fresh
 fn:=g.fn
theorem copy_ok(h:Sd S n m)(hb:m.hs.length<1000000)(hc:m.next<big){k:Int}{φ:Fn}(hk:m.fn k=some φ):∃m',m.copy k=some (m',m.next,0)/\New S n m m' m.next φ 1:=by
 obtain⟨m',r,h1,h2⟩:=h.copy (by omega) hc hk;exact⟨m',r,h2.new h1 (.inr h2.next)⟩
theorem not_ok(h:Sd S n m)(hb:m.hs.length<1000000)(hc:m.next<big){k:Int}{φ:Fn}(hk:m.fn k=some φ):∃m',m.not_ k=some (m',m.next,0)/\New S n m m' m.next (λρ=>!φ ρ) 1:=by
 obtain⟨m',r,h1,h2⟩:=h.not_ (by omega) hc hk;exact⟨m',r,h2.new h1 (.inr h2.next)⟩
theorem doR_ok{K:Nat}{F:Mg->Step Nat}{φ:Fn}(h:Sd S n m)(hw:m.waits.length<1000000)(hb:m.hs.length<1000000)(hc:m.next<big)(hroom:m.hs.length*2^(n+1)+K<=m.s.pl.room)
  (hF:∀m',Snd S n m.next m'->m'.fn=m.fn->m'.hs=m.hs->Runs S m'.hs.length K m' (F m') (Isf φ)):∃m',m.do_ F=some (m',m.next,0)/\New S n m m' m.next φ 1:=by
 obtain⟨m1,x,q1,q2,q3,q4,q5,q6,q7,q8,q9⟩:=h.do_ (R:=Isf φ) (by omega) hc hw (λm' a b d=>by rw[<- d];exact hF m' a b d) hroom (λm' r hr=>hr.1);cases x with
 | inr e=>exact q8.elim
 | inl f =>
   obtain⟨m2,r,h1,h2⟩:=q9;rw[q8.2] at h2
   have:=h2.new h1 (.inr h2.next);rw[q4] at this;refine⟨m2,r,⟨this.ok,by rw[this.len,q3],jBb _,by have:=this.lt;rw[h2.next,q4] at this ⊢;omega,by rw[h2.next,q4];exact jBb _,?_,this.room.trans q5,this.fresh.trans q6,λk=>?_⟩⟩
   . obtain⟨l,hl⟩:=q7
     exact⟨l,by rw[h2.waits];exact hl⟩
   . rw[h2.fn,q4,q2]
theorem var_ok(h:Sd S n m)(hw:m.waits.length<1000000)(hb:m.hs.length<1000000)(hc:m.next<big)(hroom:m.hs.length*2^(n+1)+1<=m.s.pl.room){v:Nat}(hv:v<n):∃m',m.var_ v=some (m',m.next,0)/\New S n m m' m.next (λρ=>ρ v) 1:=by
 unfold Mg.var_;rw[h.ok.pm.level_nat (by rw[h.vars];exact hv),jAa (by omega)];exact doR_ok h hw hb hc hroom λm' a _ _=>a.varR hv
theorem iteH_ok(hS1:∀φ ψ χ,S 1 φ ψ χ=iteF φ ψ χ)(h:Sd S n m)(hw:m.waits.length<1000000)(hb:m.hs.length<1000000)(hc:m.next<big)(hroom:m.hs.length*2^(n+1)+2^n<=m.s.pl.room){f g k:Int}{φ ψ χ:Fn}(hf:m.fn f=some φ)(hg:m.fn g=some ψ)(hk:m.fn k=some χ) :
  ∃m',m.iteH f g k=some (m',m.next,0)/\New S n m m' m.next (iteF φ ψ χ) 1:=by
 unfold Mg.iteH;refine doR_ok h hw hb hc hroom λm' a b d=>?_
 have edge:∀(k:Int) (φ:Fn),m.fn k=some φ->∃e,m'.of k=some e/\val m'.s.nd e/\den m'.s.nd e=φ:=λk φ hk=>by
  have hk:m'.fn k=some φ:=by rw[b];exact hk
  unfold Mg.fn at hk;cases ho:m'.of k with
  | none=>rw[ho] at hk;cases hk
  | some e=>rw[ho] at hk;injection hk with hk;exact⟨e,rfl,of_val a ho,hk⟩
 obtain⟨ef,h1,h2,h3⟩:=edge f φ hf;obtain⟨eg,h4,h5,h6⟩:=edge g ψ hg;obtain⟨ek,h7,h8,h9⟩:=edge k χ hk;have he:(m'.edge f).then (λm a=>(m.edge g).then λm b=>(m.edge k).then λm c=>m.ite fuel a b c)=m'.ite fuel ef eg ek:=by
  unfold Mg.edge;simp only[h1,Step.then,h4,h7]
 rw[he]
 have:=a.iteR hS1 h2 h5 h8;rw[h3,h6,h9] at this;exact this.mono (Nat.sub_le _ _) λ_ _ _ h=>h
theorem drop_ok(h:Sd S n m){k:Int}{φ:Fn}(hk:m.fn k=some φ)(h1:1<k)(l:List Int):∃m',m.drop (k::l)=m'.drop l/\Gone S n m m' k:=by
 unfold Mg.fn at hk;cases ho:m.of k with
 | none=>rw[ho] at hk;cases hk
 | some f =>
   obtain⟨s',e,r,h2,h3⟩:=h.drop1 ho h1;refine⟨_,?_,⟨h2,h3.len,h3.next,h3.waits,h3.room,h3.fresh,h3.fn⟩⟩;conv=>lhs;unfold Mg.drop
   simp only[ho,jAb h1,r,Option.bind_some]
inductive Ex where
 | mk (op var:Int) (kids:List Ex)
mutual
def Ex.sz:Ex->Nat
 | .mk _ _ ks=>Ex.szs ks+1
def Ex.szs:List Ex->Nat
 | []=>0
 | k::ks=>k.sz+Ex.szs ks
end
def foldV(op:Int)(b:Bool)(vs:List Bool):Bool:=if op=5 then vs.foldl (λa b=>a&&b) b else if op=6 then vs.foldl (λa b=>a||b) b else vs.foldl (λa b=>a ^^ b) b
def opV(ρ:Nat->Bool)(op var:Int)(vs:List Bool):Bool :=
 if op=1 then true else if op=2 then false else if op=3 then ρ var.toNat else if op=5\/op=6\/op=7 then foldV op (op==5) vs
 else if op=4 then !(vs.getD 0 false) else if op=8 then (!(vs.getD 0 false)||vs.getD 1 false) else if op=9 then (vs.getD 0 false==vs.getD 1 false) else if vs.getD 0 false then vs.getD 1 false else vs.getD 2 false
mutual
def Ex.v(ρ:Nat->Bool):Ex->Bool
 | .mk op var ks=>opV ρ op var (Ex.vs ρ ks)
def Ex.vs(ρ:Nat->Bool):List Ex->List Bool
 | []=>[]
 | k::ks=>k.v ρ::Ex.vs ρ ks
end
def shapeOk(n:Nat)(op var:Int)(k:Nat):Prop:=((op=1\/op=2)/\k=0)\/(op=3/\k=0/\0<=var/\var<n)\/(op=4/\k=1)\/(op=5\/op=6\/op=7)\/((op=8\/op=9)/\k=2)\/(op=10/\k=3)
inductive ExOk (n:Nat):Ex->Prop
 | mk {op var:Int} {ks:List Ex}:shapeOk n op var ks.length->(∀k∈ks,ExOk n k)->ExOk n (.mk op var ks)
def endJ(x:Option (Mg×Nat×Nat))(l:List Int):Option (Mg×Nat×Bool) :=
 match x with
 | none=>none
 | some (m,r,c)=>if c=0 then (m.drop l).map λ(m,e)=>(m,r,e==0) else some (m,r,false)
def joinM(m:Mg)(op a b:Int):Option (Mg×Nat×Bool) :=
 if op=5 then endJ (m.iteH a b 0) [a,b]
 else if op=6 then endJ (m.iteH a 1 b) [a,b]
 else if op=8 then endJ (m.iteH a b 1) [a,b]
 else match m.not_ b with
  | none=>none
  | some (m,k,d) =>
    if d=0 then
     match (if op=7 then m.iteH a k b else m.iteH a b k) with
     | none=>none
     | some (m,r,c)=>(m.drop [(k:Int)]).bind λ(m,_)=>endJ (some (m,r,c)) [a,b]
    else some (m,0,false)
mutual
def buildM:Ex->Mg->Option (Mg×Nat×Bool)
 | .mk op var ks,m =>
   if op=1\/op=2 then (m.copy (if op=1 then 1 else 0)).map λ(m,h,e)=>(m,h,e==0)
   else if op=3 then (m.var_ var).map λ(m,h,e)=>(m,h,e==0)
   else if op=5\/op=6\/op=7 then
    match m.copy (if op=5 then 1 else 0) with
    | none=>none
    | some (m,h,e)=>if e=0 then foldM op ks m h else some (m,h,false)
   else match listM ks m [] with
    | none=>none
    | some (m,none)=>some (m,0,false)
    | some (m,some l) =>
      if op=4/\l.length=1 then endJ (m.not_ (l.getD 0 0:Nat)) [(l.getD 0 0:Nat)]
      else if op=10/\l.length=3 then endJ (m.iteH (l.getD 0 0:Nat) (l.getD 1 0:Nat) (l.getD 2 0:Nat)) [(l.getD 0 0:Nat),(l.getD 1 0:Nat),(l.getD 2 0:Nat)]
      else if l.length=2 then joinM m op (l.getD 0 0:Nat) (l.getD 1 0:Nat)
      else some (m,0,false)
def foldM(op:Int):List Ex->Mg->Nat->Option (Mg×Nat×Bool)
 | [],m,h=>some (m,h,true)
 | k::ks,m,h =>
   match buildM k m with
   | none=>none
   | some (m,_,false)=>some (m,h,false)
   | some (m,g,true) =>
     match joinM m op h g with
     | none=>none
     | some (m,r,false)=>some (m,r,false)
     | some (m,r,true)=>foldM op ks m r
def listM:List Ex->Mg->List Nat->Option (Mg×Option (List Nat))
 | [],m,l=>some (m,some l)
 | k::ks,m,l =>
   match buildM k m with
   | none=>none
   | some (m,_,false)=>some (m,none)
   | some (m,g,true)=>listM ks m (l++[g])
end
structure Made (S:Sem) (n:Nat) (m m':Mg) (r:Nat) (l:List Int) (φ:Fn) (cost:Nat):Prop where
 ok:Sd S n m'
 len:m'.hs.length+l.length=m.hs.length+1
 ge:m.next<=r
 lt:r<m'.next
 cost:m'.next<=m.next+cost
 waits:∃w,m.waits=w++m'.waits
 room:m'.s.pl.room=m.s.pl.room
 fresh:m'.fresh=m.fresh
 fn:∀k,m'.fn k=if k=(r:Int) then some φ else if k∈l then none else m.fn k
theorem drops_ok:∀(l:List Int) (m:Mg),Sd S n m->l.Nodup->(∀k∈l,1<k/\(m.fn k).isSome=true)->∃m',m.drop l=some (m',0)/\Sd S n m'/\m'.hs.length+l.length=m.hs.length/\m'.next=m.next/\m'.waits=m.waits/\m'.s.pl.room=m.s.pl.room/\m'.fresh=m.fresh/\∀k,m'.fn k=if k∈l then none else m.fn k
 | [],m,h,_,_=>⟨m,rfl,h,rfl,rfl,rfl,rfl,rfl,λk=>by simp⟩
 | a::l,m,h,hd,hl=>by
   obtain⟨h1,h2⟩:=hl a (.head _);obtain⟨φ,hφ⟩:=yF.1 h2;obtain⟨m1,r1,g⟩:=drop_ok h hφ h1 l;rw[jMa] at hd;obtain⟨m2,r2,k1,k2,k3,k4,k5,k6,k7⟩:=drops_ok l m1 g.ok hd.2 λk hk=>by
    obtain⟨h3,h4⟩:=hl k (.tail _ hk);refine⟨h3,?_⟩;rw[g.fn,jAa (by rintro rfl;exact hd.1 hk)];exact h4
   refine⟨m2,r1.trans r2,k1,?_,k3.trans g.next,k4.trans g.waits,k5.trans g.room,k6.trans g.fresh,λk=>?_⟩
   . have:=g.len
     rw[yB];omega
   . rw[k7,g.fn]
     by_cases e:k=a
     . subst e;simp[hd.1]
     . simp[e]
theorem endJ_ok{m1:Mg}{r:Nat}{φ:Fn}{cost:Nat}(g:New S n m m1 r φ cost){l:List Int}(hd:l.Nodup)(hl:∀k∈l,1<k/\k<m.next/\(m.fn k).isSome=true):∃m',endJ (some (m1,r,0)) l=some (m',r,true)/\Made S n m m' r l φ cost:=by
 have hge:=g.ge;obtain⟨m2,r2,k1,k2,k3,k4,k5,k6,k7⟩:=drops_ok l m1 g.ok hd λk hk=>by
  obtain⟨h3,h4,h5⟩:=hl k hk;refine⟨h3,?_⟩;rw[g.fn,jAa (by omega)];exact h5
 refine⟨m2,?_,⟨k1,by have:=g.len;omega,hge,by rw[k3];exact g.lt,by rw[k3];exact g.cost,by obtain⟨w,hw⟩:=g.waits;exact⟨w,by rw[k4];exact hw⟩,k5.trans g.room,k6.trans g.fresh,λk=>?_⟩⟩
 . unfold endJ
   simp only[jEb,r2,Option.map_some];rfl
 . rw[k7,g.fn]
   by_cases e:k=(r:Int)
   . rw[jAb e,jAb e,jAa]
     intro hk
     have:=(hl k hk).2.1;omega
   . rw[jAa e,jAa e]
end G
end Go.Proofs.YtidamcdklgfogaaGreat
