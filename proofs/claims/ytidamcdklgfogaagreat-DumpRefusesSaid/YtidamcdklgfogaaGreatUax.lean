import Derived.Test.YtidamcdklgfogaaGreatUaw
set_option linter.unusedVariables false
set_option linter.unusedSimpArgs false
set_option maxRecDepth 100000
set_option maxHeartbeats 8000000
namespace Go.Proofs.YtidamcdklgfogaaGreat
namespace G
variable{S:Sem} {n H:Nat} {m m':Mg}
def op2(op:Int)(x y:Bool):Bool:=if op=5 then x&&y else if op=6 then x||y else if op=8 then !x||y else if op=7 then x ^^ y else x==y
structure Fit (n H:Nat) (m:Mg) (k q:Nat):Prop where
 hs:m.hs.length+k<=H
 lim:H<1000000
 room:H*2^(n+1)+2^n<=m.s.pl.room
 waits:m.waits.length<1000000
 next:m.next+q<1000000000000
theorem Fit.step{k q:Nat}(f:Fit n H m k q){k' q':Nat}(hh:m'.hs.length+k'<=m.hs.length+k)(hr:m'.s.pl.room=m.s.pl.room)(hw:∃l,m.waits=l++m'.waits)(hn:m'.next+q'<=m.next+q):Fit n H m' k' q' :=
 ⟨by have:=f.hs;omega,f.lim,by rw[hr];exact f.room,by obtain⟨l,hl⟩:=hw;have:=f.waits;rw[hl,yG] at this;omega,by have:=f.next;omega⟩
theorem Fit.rm{k q:Nat}(f:Fit n H m k q):m.hs.length*2^(n+1)+2^n<=m.s.pl.room:=by
 have h1:=f.hs;have h2:=f.room;have h3:m.hs.length*2^(n+1)<=H*2^(n+1):=jSb _ (by omega);omega
theorem Fit.lt{k q:Nat}(f:Fit n H m k q):m.hs.length<1000000/\m.next<big:=by
 have:=f.hs;have:=f.lim;have:=f.next
 have:(1000000000000:Nat)<big:=(by decide);omega
theorem Fit.ite{k q:Nat}(f:Fit n H m k q)(hS1:∀φ ψ χ,S 1 φ ψ χ=iteF φ ψ χ)(h:Sd S n m){a b c:Int}{φ ψ χ:Fn}(ha:m.fn a=some φ)(hb:m.fn b=some ψ)(hc:m.fn c=some χ):∃m',m.iteH a b c=some (m',m.next,0)/\New S n m m' m.next (iteF φ ψ χ) 1 :=
 iteH_ok hS1 h f.waits f.lt.1 f.lt.2 f.rm ha hb hc
theorem Sd.c01(h:Sd S n m):m.fn 0=some (λ_=>false)/\m.fn 1=some (λ_=>true):=by
 have g0:=h.ok.can.g0;unfold Mg.fn;rw[h.c0,h.c1,Option.map_some,Option.map_some];exact⟨jNa some (funext λρ=>den_one g0 ρ),jNa some (funext λρ=>den_zero g0 ρ)⟩
theorem New.fn_old{h cost:Nat}{φ:Fn}(g:New S n m m' h φ cost)(hs:Sd S n m){k:Int}{ψ:Fn}(hk:m.fn k=some ψ):m'.fn k=some ψ:=by
 have:=(fn_lt hs hk).2
 have:=g.ge;rw[g.fn,jAa (by omega)];exact hk
theorem joinM_ok(hS1:∀φ ψ χ,S 1 φ ψ χ=iteF φ ψ χ)(h:Sd S n m)(f:Fit n H m 2 2){op a b:Int}{φ ψ:Fn}(ha:m.fn a=some φ)(hb:m.fn b=some ψ)(h1:1<a)(h2:1<b)(hab:a≠b)(hop:op=5\/op=6\/op=7\/op=8\/op=9) :
  ∃m' r,joinM m op a b=some (m',r,true)/\Made S n m m' r [a,b] (λρ=>op2 op (φ ρ) (ψ ρ)) 2:=by
 have hnd:[a,b].Nodup:=by simp[hab]
 have hl:∀k∈[a,b],1<k/\k<m.next/\(m.fn k).isSome=true:=λk hk=>by
  simp only[jBa,jCa,jJb] at hk;rcases hk with rfl|rfl
  . exact⟨h1,(fn_lt h ha).2,by rw[ha];rfl⟩
  . exact⟨h2,(fn_lt h hb).2,by rw[hb];rfl⟩
 have fin:∀{m1:Mg} {χ:Fn},New S n m m1 m.next χ 1->(∀ρ,χ ρ=op2 op (φ ρ) (ψ ρ))->∃m',endJ (some (m1,m.next,0)) [a,b]=some (m',m.next,true)/\Made S n m m' m.next [a,b] (λρ=>op2 op (φ ρ) (ψ ρ)) 2:=λg he=>by
  obtain⟨m',r,k⟩:=endJ_ok g hnd hl;rw[show (_:Fn)=λρ=>op2 op (φ ρ) (ψ ρ) from funext he] at k;exact⟨m',r,⟨k.ok,k.len,k.ge,k.lt,by have:=k.cost;omega,k.waits,k.room,k.fresh,k.fn⟩⟩
 unfold joinM;by_cases e5:op=5
 . rw[jAb e5]
   obtain⟨m1,r,g⟩:=f.ite hS1 h ha hb h.c01.1;rw[r];obtain⟨m',r',k⟩:=fin g λρ=>by unfold iteF op2;rw[jAb e5];cases φ ρ <;> simp
   exact⟨m',_,r',k⟩
 rw[jAa e5];by_cases e6:op=6
 . rw[jAb e6]
   obtain⟨m1,r,g⟩:=f.ite hS1 h ha h.c01.2 hb;rw[r];obtain⟨m',r',k⟩:=fin g λρ=>by unfold iteF op2;rw[jAa e5,jAb e6];cases φ ρ <;> simp
   exact⟨m',_,r',k⟩
 rw[jAa e6];by_cases e8:op=8
 . rw[jAb e8]
   obtain⟨m1,r,g⟩:=f.ite hS1 h ha hb h.c01.2;rw[r];obtain⟨m',r',k⟩:=fin g λρ=>by unfold iteF op2;rw[jAa e5,jAa e6,jAb e8];cases φ ρ <;> simp
   exact⟨m',_,r',k⟩
 rw[jAa e8];obtain⟨m1,r1,g1⟩:=not_ok h f.lt.1 f.lt.2 hb;simp only[r1,jEb];have hc1:=g1.cost;have hl1:=g1.lt;have f1:Fit n H m1 1 1:=f.step (by rw[g1.len];omega) g1.room g1.waits (by omega);have hn1:m1.fn (m.next:Int)=some (λρ=>!ψ ρ):=by rw[g1.fn,jAb rfl]
 have ha1:=g1.fn_old h ha;have hb1:=g1.fn_old h hb;have key:∃m2 χ,(if op=7 then m1.iteH a (m.next:Int) b else m1.iteH a b (m.next:Int))=some (m2,m1.next,0)/\New S n m1 m2 m1.next χ 1/\∀ρ,χ ρ=op2 op (φ ρ) (ψ ρ):=by
  by_cases e7:op=7
  . rw[jAb e7]
    obtain⟨m2,r,g⟩:=f1.ite hS1 g1.ok ha1 hn1 hb1;exact⟨m2,_,r,g,λρ=>by show (if φ ρ=true then !ψ ρ else ψ ρ)=_;unfold op2;rw[jAa e5,jAa e6,jAa e8,jAb e7];cases φ ρ <;> cases ψ ρ <;> rfl⟩
  . rw[jAa e7]
    obtain⟨m2,r,g⟩:=f1.ite hS1 g1.ok ha1 hb1 hn1;exact⟨m2,_,r,g,λρ=>by show (if φ ρ=true then ψ ρ else !ψ ρ)=_;unfold op2;rw[jAa e5,jAa e6,jAa e8,jAa e7];cases φ ρ <;> cases ψ ρ <;> rfl⟩
 obtain⟨m2,χ,r2,g2,hχ⟩:=key;have hn0:=h.next.1;have hn2:m2.fn (m.next:Int)=some (λρ=>!ψ ρ):=g2.fn_old g1.ok hn1;obtain⟨m3,r3,g3⟩:=drop_ok g2.ok hn2 (by omega) [];have hd3:m2.drop [(m.next:Int)]=some (m3,0):=r3;simp only[r2,hd3,Option.bind_some];have hl2:=g2.lt;have hge2:=g2.ge;have hc2:=g2.cost;have gg:New S n m m3 m1.next χ 2:=by
  refine⟨g3.ok,?_,by omega,by rw[g3.next];exact hl2,by rw[g3.next];omega,?_,g3.room.trans (g2.room.trans g1.room),g3.fresh.trans (g2.fresh.trans g1.fresh),λk=>?_⟩
  . have:=g3.len
    have:=g2.len
    have:=g1.len;omega
  . obtain⟨w1,e1⟩:=g1.waits
    obtain⟨w2,e2⟩:=g2.waits;exact⟨w1++w2,by rw[g3.waits,e1,e2,jE]⟩
  . rw[g3.fn,g2.fn,g1.fn]
    by_cases ek:k=(m1.next:Int)
    . rw[jAb ek,jAa (by omega),jAb ek]
    . rw[jAa ek,jAa ek]
      by_cases ek2:k=(m.next:Int)
      . rw[jAb ek2]
        cases hq:m.fn k with
        | none=>rfl
        | some q=>have:=(fn_lt h hq).2;omega
      . rw[jAa ek2,jAa ek2]
 obtain⟨m',r',k⟩:=endJ_ok gg hnd hl;rw[show χ=λρ=>op2 op (φ ρ) (ψ ρ) from funext hχ] at k;exact⟨m',_,r',k⟩
structure Fold (S:Sem) (n:Nat) (m m':Mg) (h r:Nat) (φ:Fn) (cost:Nat):Prop where
 ok:Sd S n m'
 len:m'.hs.length=m.hs.length
 rr:r<m'.next/\(r=h\/m.next<=r)
 ge:m.next<=m'.next
 cost:m'.next<=m.next+cost
 waits:∃w,m.waits=w++m'.waits
 room:m'.s.pl.room=m.s.pl.room
 fresh:m'.fresh=m.fresh
 fn:∀k,m'.fn k=if k=(r:Int) then some φ else if k=(h:Int) then none else m.fn k
structure Lst (S:Sem) (n:Nat) (m m':Mg) (ks:List Ex) (l:List Nat) (cost:Nat):Prop where
 ok:Sd S n m'
 len:m'.hs.length=m.hs.length+l.length
 lk:l.length=ks.length
 nd:l.Nodup
 bd:∀h∈l,m.next<=h/\h<m'.next
 ge:m.next<=m'.next
 cost:m'.next<=m.next+cost
 waits:∃w,m.waits=w++m'.waits
 room:m'.s.pl.room=m.s.pl.room
 fresh:m'.fresh=m.fresh
 vals:∀(i:Nat) h,l[i]?=some h->∃e,ks[i]?=some e/\m'.fn (h:Int)=some (λρ=>e.v ρ)
 fn:∀k,(∀h∈l,k≠(h:Int))->m'.fn k=m.fn k
theorem foldV_cons(op:Int)(b x:Bool)(vs:List Bool)(h:op=5\/op=6\/op=7):foldV op b (x::vs)=foldV op (op2 op b x) vs:=by
 unfold foldV op2;rcases h with rfl|rfl|rfl <;> simp
theorem szs_ge:∀(ks:List Ex),ks.length<=Ex.szs ks
 | []=>jBb _
 | k::ks=>by
   have:=szs_ge ks
   have:0<k.sz:=by cases k;rw[Ex.sz];omega
   rw[Ex.szs,yB];omega
theorem vs_get(ρ:Nat->Bool):∀(ks:List Ex) (i:Nat) (e:Ex),ks[i]?=some e->(Ex.vs ρ ks).getD i false=e.v ρ
 | [],i,e,h=>by simp at h
 | k::ks,0,e,h=>by simp at h;subst h;rw[Ex.vs];rfl
 | k::ks,i+1,e,h=>by
   rw[Ex.vs,kZa];exact vs_get ρ ks i e (by simpa using h)
mutual
theorem buildM_ok(hS1:∀φ ψ χ,S 1 φ ψ χ=iteF φ ψ χ):∀(e:Ex) (m:Mg),ExOk n e->Sd S n m->Fit n H m (e.sz+3) (3*e.sz)->∃m' h,buildM e m=some (m',h,true)/\New S n m m' h (λρ=>e.v ρ) (3*e.sz-2)
 | .mk op var ks,m,hok,hs,f=>by
   have hsz:(Ex.mk op var ks).sz=Ex.szs ks+1:=by rw[Ex.sz]
   rw[hsz] at f ⊢;obtain⟨hsh,hks⟩:shapeOk n op var ks.length/\∀k∈ks,ExOk n k:=by cases hok;exact⟨‹_›,‹_›⟩
   have hv:∀ρ,(Ex.mk op var ks).v ρ=opV ρ op var (Ex.vs ρ ks):=λρ=>by rw[Ex.v]
   simp only[hv];rw[buildM];by_cases c1:op=1\/op=2
   . rw[jAb c1]
     obtain⟨φ,hφ,hval⟩:∃φ,m.fn (if op=1 then 1 else 0)=some φ/\∀ρ,φ ρ=opV ρ op var (Ex.vs ρ ks):=by
      rcases c1 with rfl|rfl
      . exact⟨_,hs.c01.2,λρ=>rfl⟩
      . exact⟨_,hs.c01.1,λρ=>rfl⟩
     obtain⟨m',r,g⟩:=copy_ok hs f.lt.1 f.lt.2 hφ;rw[r,show (λρ=>opV ρ op var (Ex.vs ρ ks))=φ from funext λρ=>(hval ρ).symm];exact⟨m',_,rfl,⟨g.ok,g.len,g.ge,g.lt,by have:=g.cost;omega,g.waits,g.room,g.fresh,g.fn⟩⟩
   rw[jAa c1];have c1':¬op=1/\¬op=2:=not_or.1 c1;by_cases c3:op=3
   . rw[jAb c3]
     obtain⟨h0,hn⟩:0<=var/\var<n:=by
      unfold shapeOk at hsh;omega
     obtain⟨v,rfl⟩:∃v:Nat,var=(v:Int):=⟨var.toNat,by omega⟩;obtain⟨m',r,g⟩:=var_ok hs f.waits f.lt.1 f.lt.2 (by have:=f.rm;have:0<2^n:=Nat.pow_pos (by decide);omega) (v:=v) (by omega);rw[r,show (λρ=>opV ρ op (v:Int) (Ex.vs ρ ks))=λρ=>ρ v from funext λρ=>by unfold opV;rw[jAa c1'.1,jAa c1'.2,jAb c3];rfl];exact⟨m',_,rfl,⟨g.ok,g.len,g.ge,g.lt,by have:=g.cost;omega,g.waits,g.room,g.fresh,g.fn⟩⟩
   rw[jAa c3];by_cases c5:op=5\/op=6\/op=7
   . rw[jAb c5]
     obtain⟨φ,hφ,hval⟩:∃φ,m.fn (if op=5 then 1 else 0)=some φ/\∀ρ,φ ρ=(op==5):=by
      rcases c5 with rfl|rfl|rfl
      . exact⟨_,hs.c01.2,λρ=>rfl⟩
      . exact⟨_,hs.c01.1,λρ=>rfl⟩
      . exact⟨_,hs.c01.1,λρ=>rfl⟩
     obtain⟨m1,r,g⟩:=copy_ok hs f.lt.1 f.lt.2 hφ;simp only[r,jEb];have hc:=g.cost;have hl:=g.lt;have hn0:=hs.next.1;obtain⟨m2,r2,q,g2⟩:=foldM_ok hS1 op c5 ks m1 m.next φ hks g.ok (by rw[g.fn,jAb rfl]) (by omega) (f.step (by rw[g.len];omega) g.room g.waits (by omega));refine⟨m2,r2,q,⟨g2.ok,by rw[g2.len,g.len],by have:=g2.rr;omega,g2.rr.1,by have:=g2.cost;omega,?_,g2.room.trans g.room,g2.fresh.trans g.fresh,λk=>?_⟩⟩
     . obtain⟨w1,e1⟩:=g.waits
       obtain⟨w2,e2⟩:=g2.waits;exact⟨w1++w2,by rw[e1,e2,jE]⟩
     . rw[g2.fn,g.fn]
       by_cases ek:k=(r2:Int)
       . rw[jAb ek,jAb ek]
         congr 1
         funext ρ
         unfold opV;rw[jAa c1'.1,jAa c1'.2,jAa c3,jAb c5,hval]
       . rw[jAa ek,jAa ek]
         by_cases ek2:k=(m.next:Int)
         . rw[jAb ek2]
           cases hq:m.fn k with
           | none=>rfl
           | some q=>have:=(fn_lt hs hq).2;omega
         . rw[jAa ek2,jAa ek2]
   rw[jAa c5];obtain⟨m1,l,r1,g1⟩:=listM_ok hS1 ks m [] hks hs (f.step (by omega) rfl ⟨[],rfl⟩ (by omega));simp only[r1,List.nil_append];have hlk:=g1.lk;have hln:=g1.len;have hc1:=g1.cost;have hge:=g1.ge;have hn0:=hs.next.1;have hszs:=szs_ge ks;have hget:∀i,i<ks.length->∃h e,l[i]?=some h/\l.getD i 0=h/\ks[i]?=some e/\m1.fn (h:Int)=some (λρ=>e.v ρ)/\m.next<=h/\h<m1.next/\∀ρ,(Ex.vs ρ ks).getD i false=e.v ρ:=λi hi=>by
    have hh:=yA (l:=l) (i:=i) (by omega);obtain⟨e,h1,h2⟩:=g1.vals i _ hh;obtain⟨h3,h4⟩:=g1.bd _ (jWb (l:=l) (n:=i) (by omega));exact⟨_,e,hh,by rw[yD,hh];rfl,h1,h2,h3,h4,λρ=>vs_get ρ ks i e h1⟩
   have f1:Fit n H m1 3 2:=f.step (by omega) g1.room g1.waits (by omega);have fin:∀{m2:Mg} {r:Nat} {q:List Int} {χ:Fn} {cost:Nat},Made S n m1 m2 r q χ cost->q=l.map (λh=>((h:Nat):Int))->cost<=2->(∀ρ,χ ρ=opV ρ op var (Ex.vs ρ ks))->1<=ks.length->(ks.length=1->cost<=1) ->
     New S n m m2 r (λρ=>opV ρ op var (Ex.vs ρ ks)) (3*(Ex.szs ks+1)-2):=λ{m2 r q χ cost} g hq hcost hχ hk1 _=>by
    subst hq;have h1:=g.len;have h2:=g.ge;have h3:=g.lt;have h4:=g.cost;rw[jHb] at h1;refine⟨g.ok,by omega,by omega,h3,by omega,?_,g.room.trans g1.room,g.fresh.trans g1.fresh,λk=>?_⟩
    . obtain⟨w1,e1⟩:=g1.waits
      obtain⟨w2,e2⟩:=g.waits;exact⟨w1++w2,by rw[e1,e2,jE]⟩
    . rw[g.fn,show χ=λρ=>opV ρ op var (Ex.vs ρ ks) from funext hχ]
      by_cases e1:k=(r:Int)
      . rw[jAb e1,jAb e1]
      . rw[jAa e1,jAa e1]
        by_cases e2:k∈l.map (λh=>((h:Nat):Int))
        . rw[jAb e2]
          obtain⟨h,hh,rfl⟩:=jF.1 e2
          have:=(g1.bd h hh).1;cases hq:m.fn (h:Int) with
          | none=>rfl
          | some q=>have:=(fn_lt hs hq).2;omega
        . rw[jAa e2]
          exact g1.fn k λh hh e=>e2 (e ▸ jWa hh)
   have lst:∀i h,l[i]?=some h->l.getD i 0=h:=λi h hi=>by rw[yD,hi];rfl
   by_cases c4:op=4
   . have hk:ks.length=1:=by unfold shapeOk at hsh;omega
     obtain⟨h,e,i1,i2,i3,i4,i5,i6,i7⟩:=hget 0 (by omega);have hl:l=[h]:=by
      match l,hlk.trans hk,i1 with
      | [a],_,i1=>simp at i1;rw[i1]
     rw[jAb ⟨c4,by omega⟩,i2];obtain⟨m2,r2,g2⟩:=not_ok g1.ok f1.lt.1 f1.lt.2 i4;rw[r2];obtain⟨m3,r3,g3⟩:=endJ_ok g2 (l:=[(h:Int)]) (by simp) (λk hk=>by
      simp only[jBa,jCa,jJb] at hk;subst hk;exact⟨by omega,by omega,by rw[i4];rfl⟩)
     exact⟨m3,_,r3,fin g3 (by rw[hl];rfl) (by omega) (λρ=>by unfold opV;rw[jAa c1'.1,jAa c1'.2,jAa c3,jAa c5,jAb c4,i7]) (by omega) (by omega)⟩
   rw[jAa (by omega)];by_cases c10:op=10
   . have hk:ks.length=3:=by unfold shapeOk at hsh;omega
     obtain⟨h0,e0,i1,i2,i3,i4,i5,i6,i7⟩:=hget 0 (by omega);obtain⟨h1,e1,j1,j2,j3,j4,j5,j6,j7⟩:=hget 1 (by omega);obtain⟨h2,e2,k1,k2,k3,k4,k5,k6,k7⟩:=hget 2 (by omega);have hl:l=[h0,h1,h2]:=by
      match l,hlk.trans hk,i1,j1,k1 with
      | [a,b,c],_,i1,j1,k1=>simp at i1 j1 k1;rw[i1,j1,k1]
     have hnd:=g1.nd;rw[hl] at hnd;simp only[jMa,jBa,jCa,jJb,not_or,List.nodup_nil,not_false_eq_true,kJb] at hnd;rw[jAb ⟨c10,by omega⟩,i2,j2,k2];obtain⟨m2,r2,g2⟩:=f1.ite hS1 g1.ok i4 j4 k4;rw[r2];obtain⟨m3,r3,g3⟩:=endJ_ok g2 (l:=[(h0:Int),(h1:Int),(h2:Int)]) (by simp;omega) (λk hk=>by
      simp only[jBa,jCa,jJb] at hk;rcases hk with rfl|rfl|rfl
      . exact⟨by omega,by omega,by rw[i4];rfl⟩
      . exact⟨by omega,by omega,by rw[j4];rfl⟩
      . exact⟨by omega,by omega,by rw[k4];rfl⟩)
     exact⟨m3,_,r3,fin g3 (by rw[hl];rfl) (by omega) (λρ=>by unfold opV iteF;rw[jAa c1'.1,jAa c1'.2,jAa c3,jAa c5,jAa c4,jAa (by omega:¬op=8),jAa (by omega:¬op=9),i7,j7,k7]) (by omega) (by omega)⟩
   rw[jAa (by omega)];have hk:ks.length=2:=by unfold shapeOk at hsh;omega
   have c89:op=8\/op=9:=by unfold shapeOk at hsh;omega
   obtain⟨h0,e0,i1,i2,i3,i4,i5,i6,i7⟩:=hget 0 (by omega);obtain⟨h1,e1,j1,j2,j3,j4,j5,j6,j7⟩:=hget 1 (by omega);have hl:l=[h0,h1]:=by
    match l,hlk.trans hk,i1,j1 with
    | [a,b],_,i1,j1=>simp at i1 j1;rw[i1,j1]
   have hnd:=g1.nd;rw[hl] at hnd;simp only[jMa,jBa,jCa,jJb,List.nodup_nil,not_false_eq_true,kJb] at hnd;rw[jAb (by omega),i2,j2];obtain⟨m2,r,r2,g2⟩:=joinM_ok hS1 g1.ok (f1.step (by omega) rfl ⟨[],rfl⟩ (by omega)) i4 j4 (by omega) (by omega) (by omega) (by omega:op=5\/op=6\/op=7\/op=8\/op=9);exact⟨m2,r,r2,fin g2 (by rw[hl];rfl) (by omega) (λρ=>by
    unfold opV op2;rw[jAa c1'.1,jAa c1'.2,jAa c3,jAa c5,jAa c4,i7,j7];rcases c89 with rfl|rfl <;> simp) (by omega) (by omega)⟩
theorem foldM_ok(hS1:∀φ ψ χ,S 1 φ ψ χ=iteF φ ψ χ)(op:Int)(hop:op=5\/op=6\/op=7):∀(ks:List Ex) (m:Mg) (h:Nat) (φ:Fn),(∀k∈ks,ExOk n k)->Sd S n m->m.fn (h:Int)=some φ->1<h->Fit n H m (Ex.szs ks+3) (3*Ex.szs ks) ->
  ∃m' r,foldM op ks m h=some (m',r,true)/\Fold S n m m' h r (λρ=>foldV op (φ ρ) (Ex.vs ρ ks)) (3*Ex.szs ks)
 | [],m,h,φ,_,hs,hh,h1,f=>by
   rw[foldM];refine⟨m,h,rfl,⟨hs,rfl,⟨by have:=(fn_lt hs hh).2;omega,.inl rfl⟩,jBb _,by omega,⟨[],rfl⟩,rfl,rfl,λk=>?_⟩⟩;by_cases e:k=(h:Int)
   . rw[jAb e,e,hh]
     congr 1
     funext ρ
     rw[Ex.vs];unfold foldV;simp
   . rw[jAa e,jAa e]
 | e::ks,m,h,φ,hks,hs,hh,h1,f=>by
   rw[Ex.szs] at f ⊢;rw[foldM];have hsz:0<e.sz:=by cases e;rw[Ex.sz];omega
   obtain⟨m1,g,r1,g1⟩:=buildM_ok hS1 e m (hks e (.head _)) hs (f.step (by omega) rfl ⟨[],rfl⟩ (by omega));simp only[r1];have hlt:=(fn_lt hs hh).2;have hge:=g1.ge;have hc1:=g1.cost;have hl1:=g1.lt;have hn0:=hs.next.1;obtain⟨m2,r,r2,g2⟩:=joinM_ok hS1 g1.ok (f.step (m':=m1) (k':=2) (q':=2) (by rw[g1.len];omega) g1.room g1.waits (by omega)) (g1.fn_old hs hh) (by rw[g1.fn,jAb rfl]) (by omega) (by omega) (by omega) (by omega:op=5\/op=6\/op=7\/op=8\/op=9);simp only[r2];have hge2:=g2.ge;have hc2:=g2.cost;have hl2:=g2.lt;have hlen2:=g2.len;have hlen1:=g1.len;simp only[yB,yC] at hlen2;have hw:∃w,m.waits=w++m2.waits:=by
    obtain⟨w1,e1⟩:=g1.waits;obtain⟨w2,e2⟩:=g2.waits;exact⟨w1++w2,by rw[e1,e2,jE]⟩
   obtain⟨m3,r',r3,g3⟩:=foldM_ok hS1 op hop ks m2 r _ (λk hk=>hks k (.tail _ hk)) g2.ok (by rw[g2.fn,jAb rfl]) (by omega) (f.step (by omega) (g2.room.trans g1.room) hw (by omega));refine⟨m3,r',r3,⟨g3.ok,by rw[g3.len];omega,⟨g3.rr.1,.inr (by have:=g3.rr.2;omega)⟩,by have:=g3.ge;omega,by have:=g3.cost;omega,?_,g3.room.trans (g2.room.trans g1.room),g3.fresh.trans (g2.fresh.trans g1.fresh),λk=>?_⟩⟩
   . obtain⟨w1,e1⟩:=hw
     obtain⟨w2,e2⟩:=g3.waits;exact⟨w1++w2,by rw[e1,e2,jE]⟩
   . rw[g3.fn,g2.fn,g1.fn]
     by_cases ek:k=(r':Int)
     . rw[jAb ek,jAb ek]
       congr 1
       funext ρ
       rw[Ex.vs,foldV_cons op _ _ _ hop]
     . rw[jAa ek,jAa ek]
       by_cases ek1:k=(h:Int)
       . rw[jAb ek1]
         by_cases ek2:k=(r:Int)
         . rw[jAb ek2]
         . rw[jAa ek2,jAa ek2,jAb (by simp[ek1])]
       . rw[jAa ek1]
         by_cases ek2:k=(r:Int)
         . rw[jAb ek2]
           cases hq:m.fn k with
           | none=>rfl
           | some q=>have:=(fn_lt hs hq).2;omega
         . rw[jAa ek2,jAa ek2]
           by_cases ek3:k=(g:Int)
           . rw[jAb (by simp[ek3])]
             cases hq:m.fn k with
             | none=>rfl
             | some q=>have:=(fn_lt hs hq).2;omega
           . rw[jAa (by simp;omega),jAa ek3]
theorem listM_ok(hS1:∀φ ψ χ,S 1 φ ψ χ=iteF φ ψ χ):∀(ks:List Ex) (m:Mg) (acc:List Nat),(∀k∈ks,ExOk n k)->Sd S n m->Fit n H m (Ex.szs ks+3) (3*Ex.szs ks) ->
  ∃m' l,listM ks m acc=some (m',some (acc++l))/\Lst S n m m' ks l (3*Ex.szs ks-2*ks.length)
 | [],m,acc,_,hs,f=>by
   rw[listM];exact⟨m,[],by simp,⟨hs,rfl,rfl,.nil,by simp,jBb _,by omega,⟨[],rfl⟩,rfl,rfl,by simp,λ_ _=>rfl⟩⟩
 | e::ks,m,acc,hks,hs,f=>by
   rw[Ex.szs] at f ⊢;rw[listM];have hsz:0<e.sz:=by cases e;rw[Ex.sz];omega
   have hge':=szs_ge ks;obtain⟨m1,g,r1,g1⟩:=buildM_ok hS1 e m (hks e (.head _)) hs (f.step (by omega) rfl ⟨[],rfl⟩ (by omega));simp only[r1];have hge:=g1.ge;have hc1:=g1.cost;have hl1:=g1.lt;have hlen1:=g1.len;obtain⟨m2,l,r2,g2⟩:=listM_ok hS1 ks m1 (acc++[g]) (λk hk=>hks k (.tail _ hk)) g1.ok (f.step (by omega) g1.room g1.waits (by omega));have hc2:=g2.cost;refine⟨m2,g::l,by rw[r2];simp,⟨g2.ok,by rw[g2.len,hlen1,yB];omega,by rw[yB,g2.lk,yB],?_,?_,by have:=g2.ge;omega,by rw[yB];omega,?_,g2.room.trans g1.room,g2.fresh.trans g1.fresh,?_,?_⟩⟩
   . refine jMa.2 ⟨λhm=>?_,g2.nd⟩
     have:=(g2.bd g hm).1;omega
   . intro h hh
     have:=g2.ge;rcases jBa.1 hh with rfl|hh
     . omega
     . have:=g2.bd h hh;omega
   . obtain⟨w1,e1⟩:=g1.waits
     obtain⟨w2,e2⟩:=g2.waits;exact⟨w1++w2,by rw[e1,e2,jE]⟩
   . intro i h hi
     cases i with
     | zero =>
       simp at hi
       subst hi;refine⟨e,rfl,?_⟩;rw[g2.fn _ λh' hh'=>by have:=(g2.bd h' hh').1;omega,g1.fn,jAb rfl]
     | succ i =>
       obtain⟨e',h1,h2⟩:=g2.vals i h (by simpa using hi);exact⟨e',by simpa using h1,h2⟩
   . intro k hk
     rw[g2.fn k λh' hh'=>hk h' (.tail _ hh'),g1.fn,jAa (hk g (.head _))]
end
end G
namespace G
variable{S:Sem} {n:Nat} {m m':Mg}
def bubM:List Nat->Mg->Option (Mg×Bool)
 | [],m=>some (m,true)
 | k::l,m =>
   match m.swap (k:Int) with
   | none=>none
   | some (m',e)=>if e=0 then bubM l m' else some (m',false)
def arrM(len:Nat):List Int->Nat->Mg->Option (Mg×Bool)
 | [],_,m=>some (m,true)
 | v::l,i,m =>
   if m.s.vars.length≠len then some (m,false)
   else
    let at_:=i+(m.s.vars.drop i).findIdx (λx=>((x:Nat):Int)==v)
    if at_=len then some (m,false)
    else match bubM (downTo i (at_-i)) m with
     | none=>none
     | some (m',false)=>some (m',false)
     | some (m',true)=>arrM len l (i+1) m'
theorem downTo_succ(i n:Nat):downTo i (n+1)=(i+n)::downTo i n:=by
 unfold downTo;rw[List.range_succ_eq_map,jDb,jXa];refine congr (jNa _ (by omega)) (jXb λk _=>?_);show i+(n+1-1-(k+1))=i+(n-1-k)
 omega
structure Bare (m:Mg):Prop where
 hs:∀p∈m.hs,p.2/2=0
 dead:m.s.dead=0
theorem Snd.bare{c:Nat}(h:Snd S n c m)(b:Bare m):many m.s.pl.slots=0:=by
 obtain⟨L,h1,h2,_⟩:=below_all h.ok h.vars m.hs;have hL:L=[]:=by
  refine kMb.2 λy hy=>?_
  obtain⟨p,hp,hs⟩:=(h2 y).1 hy;have hv:=(h.keys p hp).2.2;obtain⟨j,hr,_⟩:=(h.ok.sr_iff hv y).1 hs;obtain⟨⟨k,hk⟩,_⟩:=hr.some;rw[b.hs p hp,h.ok.can.g0] at hk;cases hk
 have:=h.ok.live_eq h1 λy=>?_
 . rw[hL,b.dead] at this
   simpa using this.symm
 . rw[hL]
   constructor
   . intro h;cases h
   . rintro⟨i,j,hi,hr,hy⟩
     obtain⟨⟨k,hk⟩,_⟩:=hr.some;have h0:i≠0:=by rintro rfl;rw[h.ok.can.g0] at hk;cases hk
     rw[h.refs _ h0] at hi;obtain⟨p,hp,e⟩:=cntH_ex hi;rw[b.hs p hp] at e;exact absurd e.symm h0
structure Arr (S:Sem) (n:Nat) (m m':Mg):Prop where
 ok:Sd S n m'
 stay:Stay m m'
 bare:Bare m'
theorem swap_bare(h:Sd S n m)(b:Bare m)(hb:m.hs.length<1000000){k:Nat}(hk:k+1<n):∃m',m.swap (k:Int)=some (m',0)/\Arr S n m m'/\m'.s.vars=(m.s.vars.set k (m.s.vars.getD (k+1) 0)).set (k+1) (m.s.vars.getD k 0):=by
 obtain⟨s',e,r,h1,h2,h3,h4⟩:=h.swap (by omega) hk;have b':Bare { m with s:=s',me:=Memo.none }:=⟨b.hs,h3⟩;rcases h4 with⟨_,_,h5⟩|⟨rfl,hv⟩
 . have:=h1.bare b'
   have:many s'.pl.slots=0:=this;omega
 . refine⟨_,?_,⟨h1,h2,b'⟩,hv⟩
   unfold Mg.swap;rw[r];rfl
theorem bub_ok{i v:Nat}:∀(d:Nat) (m:Mg),Sd S n m->Bare m->m.hs.length<1000000->i+d<n->m.s.vars.getD (i+d) 0=v->∃m',bubM (downTo i d) m=some (m',true)/\Arr S n m m'/\m'.s.vars.getD i 0=v/\∀j,j<i->m'.s.vars.getD j 0=m.s.vars.getD j 0
 | 0,m,h,b,_,_,hv=>⟨m,rfl,⟨h,Stay.refl m,b⟩,hv,λ_ _=>rfl⟩
 | d+1,m,h,b,hb,hd,hv=>by
   obtain⟨m1,r1,a1,v1⟩:=swap_bare h b hb (k:=i+d) (by omega);have hl:m.s.vars.length=n:=h.vars;have hg:∀j,m1.s.vars.getD j 0=if j=i+d+1 then m.s.vars.getD (i+d) 0 else if j=i+d then v else m.s.vars.getD j 0:=λj=>by
    rw[v1,Zm _ _ _ _ _ (by rw[jJa,hl];omega),Zm _ _ _ _ _ (by rw[hl];omega),show i+d+1=i+(d+1) by omega,hv]
   obtain⟨m2,r2,a2,v2,w2⟩:=bub_ok (i:=i) (v:=v) d m1 a1.ok a1.bare (by rw[a1.stay.hs];exact hb) (by omega) (by rw[hg,jAa (by omega),jAb rfl]);refine⟨m2,?_,⟨a2.ok,a1.stay.trans a2.stay,a2.bare⟩,v2,λj hj=>by rw[w2 j hj,hg,jAa (by omega),jAa (by omega)]⟩;rw[downTo_succ];unfold bubM;simp only[r1,jEb];exact r2
theorem arr_ok(o:List Nat)(ho:o.length=n)(hn:o.Nodup)(hlt:∀v∈o,v<n):∀(l:List Nat) (i:Nat) (m:Mg),o.drop i=l->i<=n->Sd S n m->Bare m->m.hs.length<1000000->(∀j,j<i->m.s.vars.getD j 0=o.getD j 0) ->
  ∃m',arrM n (l.map λv=>((v:Nat):Int)) i m=some (m',true)/\Arr S n m m'
 | [],i,m,_,_,h,b,_,_=>⟨m,rfl,⟨h,Stay.refl m,b⟩⟩
 | v::l,i,m,hd,hi,h,b,hb,hj=>by
   have hlen:l.length+1=n-i:=by have:=jNa List.length hd;rw[kHb,ho] at this;simp at this;omega
   have hoi:o[i]?=some v:=by
    have:(o.drop i)[0]?=some v:=by rw[hd];rfl
    rwa [kHa,Nat.add_zero] at this
   have hvn:v<n:=hlt v (jCb hoi);have hvl:m.s.vars.length=n:=h.vars;obtain⟨p1,p2⟩:=h.ok.pm.lv v (by rw[hvl];exact hvn);rw[hvl] at p1;have hpi:i<=lvf m.s v:=by
    refine Nat.le_of_not_lt λhlt=>?_
    have e:=hj _ hlt;rw[p2,yD,yA (by omega)] at e;have e2:o[lvf m.s v]?=some v:=by rw[yA (by omega)];exact jNa some e.symm
    have:=(List.getElem?_inj (i:=lvf m.s v) (j:=i) (by omega) hn).1 (e2.trans hoi.symm);omega
   have hf:(m.s.vars.drop i).findIdx (λx=>((x:Nat):Int)==(v:Int))<(m.s.vars.drop i).length:=by
    refine List.findIdx_lt_length_of_exists ⟨v,?_,by simp⟩
    have:(m.s.vars.drop i)[lvf m.s v-i]?=some v:=by
     rw[kHa,show i+(lvf m.s v-i)=lvf m.s v by omega,yA (by omega)];rw[yD,yA (by omega)] at p2;exact jNa some p2
    exact jCb this
   have hfv:=kXa (w:=hf);rw[jDb,arrM,jAa (by rw[hvl];simp)];simp only[];generalize hk:(m.s.vars.drop i).findIdx (λx=>((x:Nat):Int)==(v:Int))=k at *
   rw[kHb,hvl] at hf;rw[jAa (by omega)];have hget:m.s.vars.getD (i+k) 0=v:=by
    rw[yD,yA (by omega)];have e:=hfv;simp only[List.getElem_drop,jRb] at e;show m.s.vars[i+k]=v
    omega
   obtain⟨m1,r1,a1,v1,w1⟩:=bub_ok (i:=i) (v:=v) k m h b hb (by omega) hget;rw[show i+k-i=k by omega,r1];obtain⟨m2,r2,a2⟩:=arr_ok o ho hn hlt l (i+1) m1 (by rw[<- List.drop_drop,hd];rfl) (by omega) a1.ok a1.bare (by rw[a1.stay.hs];exact hb) (λj hj'=>by
    by_cases e:j=i
    . subst e
      rw[v1,yD,hoi];rfl
    . rw[w1 j (by omega)]
      exact hj j (by omega))
   exact⟨m2,r2,⟨a2.ok,a1.stay.trans a2.stay,a2.bare⟩⟩
def evErr(n:Nat)(e:Ev):Nat:=if e.kind<1\/3<e.kind then 11 else if e.after<1\/(e.kind=2/\(e.level<0\/(n:Int)-1<=e.level)) then 2 else 0
def evsErr(n:Nat):List Ev->Nat
 | []=>0
 | e::l=>if evErr n e=0 then evsErr n l else evErr n e
def Mg.plan(m:Mg)(l:List Ev):Mg×Nat :=
 if 256-(m.waits.length:Int)<l.length then (m,18)
 else if evsErr m.s.vars.length l=0 then ({ m with waits:=m.waits++l,calls:=if m.waits=[] then 0 else m.calls,fresh:=false },0)
 else (m,evsErr m.s.vars.length l)
theorem evsErr_ok{n:Nat}:∀{l:List Ev},evsErr n l=0->∀e∈l,EvOk n e
 | [],_,e,he=>by cases he
 | a::l,h,e,he=>by
   unfold evsErr at h;by_cases c:evErr n a=0
   . rw[jAb c] at h
     rcases jBa.1 he with rfl|he
     . unfold evErr at c
       by_cases c1:e.kind<1\/3<e.kind
       . rw[jAb c1] at c;omega
       . rw[jAa c1] at c
         by_cases c2:e.after<1\/(e.kind=2/\(e.level<0\/(n:Int)-1<=e.level))
         . rw[jAb c2] at c;omega
         . unfold EvOk;omega
     . exact evsErr_ok h e he
   . rw[jAa c] at h;exact absurd h c
theorem plan_ok(h:Sd S n m){l:List Ev}(hw:m.waits=[])(hl:l.length<=256)(he:evsErr n l=0):∃m',m.plan l=(m',0)/\Sd S n m'/\m'.hs=m.hs/\m'.fn=m.fn/\m'.waits=l/\m'.next=m.next/\m'.s=m.s:=by
 unfold Mg.plan;rw[hw,jAa (by simp;omega),h.vars,jAb he];exact⟨_,rfl,⟨h.ok,h.me,h.vars,h.keys,h.nodup,h.refs,h.c0,h.c1,by simpa using evsErr_ok he,h.next⟩,rfl,rfl,by simp,rfl,rfl⟩
structure Ready (S:Sem) (n room:Nat) (es:List Ex) (plan:List Ev) (m:Mg) (l:List Nat):Prop where
 ok:Sd S n m
 room:m.s.pl.room=room
 waits:m.waits=plan
 len:m.hs.length=l.length+2
 lk:l.length=es.length
 next:m.next<=3*Ex.szs es+2
 vals:∀(i:Nat) h,l[i]?=some h->∃e,es[i]?=some e/\m.fn (h:Int)=some (λρ=>e.v ρ)
 fn:∀k,m.fn k=if k=0 then some (λ_=>false) else if k=1 then some (λ_=>true) else if k∈l.map (λh=>((h:Nat):Int)) then m.fn k else none
end G
section
open Go.RowKit
theorem ddnew_any(n room:Nat){E w:World}{I:PH}{ms:List PH}(hn:n<=64)(h1:1<=room)(h2:room<=1048576)(hS:Sat E I ms w) :
  Calls Tryz.prog 26 #[nv n,nv room] w λe w'=>∃X p,e=.returned (.tuple #[vPt X,.int .i64 0])/\MgAt X (G.Mg.new n room) p/\Sat E I (p::ms) w':=by
 have HN:=yH (snew_ok (E:=E) (I:=I) (ms:=ms) (w:=w) n room hn h1 h2 hS);clear hn h1 h2 hS;go_enter Tryz.func26,Tryz.ntmps26;go_wp2_with (first
  | (go_at_call 69;(with_reducible refine yI HN.out ?_);rintro e w ⟨S,mS,rfl,hSt,hS⟩;have HSt:=yH hSt;clear hSt)
  | ((with_reducible refine isMakeMap ?_);refine mkM ikey hS rfl rfl ?_;clear hS;intro H w hS;refine aM ?_)
  | ((with_reducible refine isInsert ?_);refine inNew (x:=0) (l:=[]) hS 0 rfl kI Tryz.underlying115 rfl rfl rfl rfl rfl MapOk.nil rfl ?_;clear hS;intro w hS;(try simp only[zG,Act.eval] at hS);(try simp only[Act.put]))
  | ((with_reducible refine isInsert ?_);refine inNew (x:=1) (l:=h0R) hS 0 rfl kI Tryz.underlying115 rfl rfl rfl rfl rfl h0R_ok rfl ?_;clear hS;intro w hS;(try simp only[zG,Act.eval] at hS);(try simp only[Act.put]))
  | (go_at_call 70;(with_reducible refine yI (Go.Proofs.YtidamcdklgfogaaGreat.mnew_any _ _ _ _ hS) ?_);clear hS;rintro e w ⟨M,rfl,hS⟩)
  | (refine aN 23 ?_;clear hS;intro X w hS))
 go_ret2;have hS0:=(hS.pick 1 rfl).empty;simp only[List.eraseIdx_cons_succ,List.eraseIdx_cons_zero] at hS0;obtain⟨mM,hbM,hS1⟩:=Sat.pack [PH.one M (.cells #[.int .i64 4096,.slice none 0 0,.int .i64 0,.int .i64 0] 184),Ku] (hS0.perm (List.Perm.swap _ _ _));have hS2:=hS1.empty.pick 3 rfl;simp only[List.eraseIdx_cons_succ,List.eraseIdx_cons_zero] at hS2;have hS3:=hS2.pick 2 rfl;simp only[List.eraseIdx_cons_succ,List.eraseIdx_cons_zero] at hS3;have hS4:=hS3.pick 4 rfl;simp only[List.eraseIdx_cons_succ,List.eraseIdx_cons_zero] at hS4;have hS5:=hS4.pick 4 rfl;simp only[List.eraseIdx_cons_succ,List.eraseIdx_cons_zero] at hS5;obtain⟨p,hA,hS6⟩:=MgAt.close (m:=G.Mg.new n room) (D:=X) (S:=S) (M:=M) (H:=H) (wv:=.slice none 0 0) (mW:=Ku) ⟨by show 2<=G.big;decide,by show (-9223372036854775808:Int)<=0;decide,by show (0:Int)<=9223372036854775807;decide⟩ HSt.out ⟨MeFit.none,.slice none 0 0,Ku,0,0,hbM,.inl ⟨rfl,rfl,rfl⟩⟩ ⟨_,_,rfl,⟨by decide,by decide,by decide⟩,by rfl⟩ ⟨⟨_,_,rfl⟩,λh=>absurd h (Nat.lt_irrefl 0),λ_=>⟨rfl,rfl⟩⟩ hS5;exact⟨X,p,rfl,hA,hS6⟩
theorem gevC_len(e:G.Ev):(gevC e).length=3:=rfl
theorem ev_info:(Tryz.prog.info? 85).map (λi=>(i.zero,i.size,i.bytes))=some (some (.agg #[.int .i64 0,.int .i64 0,.int .i64 0]),3,24):=by kernel_rfl
theorem WtR.row{I:PH}{A:Option Addr}{c:Nat}{l:List G.Ev}{fr:Bool}(h:WtR I (.slice A l.length c) l fr):0<l.length->∃X off,A=some ⟨X,off,none⟩/\Cells I X off (l.flatMap gevC):=λhl=>by
 obtain⟨X,off,c',hv,h2,h3⟩:=h.2.1 hl;injection hv with e1
 refine⟨X,off,e1,λj v hj=>?_⟩;have hjl:j<(l.flatMap gevC).length:=(yE.1 hj).1;rw[Ks gevC_len] at hjl;obtain⟨e,he⟩:∃e,l[j/3]?=some e:=⟨_,yA (by omega)⟩;have hc:=h3 (j/3) e he;have hg:=flat_get gevC_len l (j/3) e he;have hj2:(gevC e)[j%3]?=some v:=by
  rw[<- hg,kH,jAb (by omega),kHa,<- hj];congr 1
  omega
 have:=hc.at (j%3) hj2
 rwa [show off+j/3*3+j%3=off+j by omega] at this
theorem OwnP.wt{m:PH}{v:Value}{l:List G.Ev}(h:OwnP m 85 3 v l.length (l.flatMap gevC)):WtR m v l false:=by
 obtain⟨A,c,hv,hc⟩:=h.shape;refine⟨⟨A,c,hv⟩,λhl=>?_,λh=>by cases h⟩;obtain⟨X,c',hv',hc'⟩:=h.ptr hl;refine⟨X,0,c',hv',hc',λi e he=>?_⟩;subst hv';rw[jLb];exact Qs gevC_len h he
theorem ev_all(l:List G.Ev):∀v∈l.flatMap gevC,v.oneCell'=true:=λv hv=>by
 obtain⟨x,_,hx⟩:=kU.1 hv;simp only[gevC,jBa,jCa,jJb] at hx;rcases hx with rfl|rfl|rfl <;> rfl
theorem evs_all{n:Nat}:∀{l:List G.Ev},G.evsErr n l=0->∀e∈l,G.evErr n e=0
 | [],_,e,he=>by cases he
 | x::l,h,e,he=>by
   unfold G.evsErr at h;split at h
   . rename_i h0
     rcases jBa.1 he with rfl|he
     . exact h0
     . exact evs_all h e he
   . rename_i h0;exact absurd h h0
theorem evErr_zero{n:Nat}{e:G.Ev}(h:G.evErr n e=0):1<=e.kind/\e.kind<=3/\1<=e.after/\(e.kind=2->0<=e.level/\e.level<(n:Int)-1):=by
 unfold G.evErr at h;split at h
 . cases h
 . split at h
   . cases h
   . omega
theorem mplan_any{E w:World}{I p:PH}{ms:List PH}{D:Nat}{m:G.Mg}{v:Value}{l:List G.Ev}(hV:WtR I v l false)(hw:m.waits=[])(hf:m.fresh=true)(hlen:l.length<=256)(he:G.evsErr m.s.vars.length l=0)(hn:m.s.vars.length<=64)(hA:MgAt D m p)(hS:Sat E I (p::ms) w) :
  Calls Tryz.prog 44 #[vPt D,v] w λe w'=>e=.returned (.int .i64 0)/\∃p',MgAt D { m with waits:=l,calls:=0,fresh:=false } p'/\Sat E I (p'::ms) w':=by
 obtain⟨⟨A,c,rfl⟩,_⟩:=id hV;have HRow:=yH hV.row;have HCel:=yH hV.2.1;have HEv:=yH (λ(i:Nat) (e:G.Ev) (h:l[i]?=some e)=>evErr_zero (evs_all he e (jCb h)));have HAll:=yH (ev_all l);have HFl:=yH (Ks gevC_len l);have HA:=yH hA;have r4:p.at D 4=some (.slice none 0 0):=by
  obtain⟨_,S,M,H,wv,_,_,_,_,r4,_,_,_,hW⟩:=hA.read;rw[(hW.2.2 hf).1] at r4;exact r4
 clear hV he hw;generalize hN:l.length=N at *
 have HLn:=yH hN;clear hN;go_enter Tryz.func44,Tryz.ntmps44;go_wp2_with ( ((with_reducible refine Qe ?_);(refine' Xx (v:=_) (.inr (List.Mem.head _)) hS rfl rfl ty_agg36 rfl r4 ?_);refine aM ?_) )
 go_loopw [20] (λv20 wr=>∃i:Nat,i<=N/\v20=.int .i64 (i:Int)/\Sat E I (p::ms) wr) (λv20 _=>(N-intOf v20).toNat)
 case atStart=>exact⟨0,jC _,rfl,hS⟩
 case round =>
  clear hS;obtain⟨i,hi,rfl,hS⟩:=hrel;by_cases hlt:i<N
  . obtain⟨ev,hx⟩:∃ev,l[i]?=some ev:=⟨_,yA (by rw[HLn.out];exact hlt)⟩
    obtain⟨Y,off,c',hY,hcc,hcell⟩:=HCel.out (by omega);injection hY with hA1 hB1 hC1
    subst hA1 hC1;have hcs:=hcell i _ hx;obtain⟨k1,k2,k3,k4⟩:=HEv.out i ev hx;obtain⟨ea,ek,el⟩:=ev;simp only at k1 k2 k3 k4;have hcs:Cells I Y (off+i*3) [.int .i64 ea,.int .i64 ek,.int .i64 el]:=hcs;have iN:(i:Int)<(N:Int):=by omega
    have d1:¬(ek<1):=by omega
    have d2:¬(ek>3):=by omega
    have d3:¬(ea<1):=by omega
    have d1':decide (ek<1)=false:=jVa d1;have d3':decide (ea<1)=false:=jVa d3;clear hx hcell k1 k2 k3;by_cases hk2:ek=2
    . subst hk2
      obtain⟨k5,k6⟩:=k4 rfl;have d5:decide (el<0)=false:=jVa (by omega);have d6:decide (el≥(m.s.vars.length:Int)-1)=false:=jVa (by omega);have d7:(m.s.vars.length:Int)<=64:=by omega
      clear k4;generalize hvl:m.s.vars.length=nvr at *
      go_wp2_with ( (first|(refine aN 6 ?_;clear hS;intro X6 w hS)|(refine aG ?_)|(refine aL ?_)|(refine aS ?_;clear hS;intro w hS)))
      have x0:w.cell? ⟨X6,0,none⟩=some (.int .i64 ea):=hS.cell_of (.head _) 0;have x1:w.cell? ⟨X6,1,none⟩=some (.int .i64 2):=hS.cell_of (.head _) 1;have x2:w.cell? ⟨X6,2,none⟩=some (.int .i64 el):=hS.cell_of (.head _) 2;have mv:=λk=>mVars_any (w:=w.drewN k) (HA.out.read.le ((hS.drewN k).mle (k:=1) rfl))
      rw[hvl] at mv;have MV:=yH mv;clear mv;go_quiet ((go_at_call 59;exact Calls.quiet_of_same ((MV.out _).mono λe w' h=>⟨h.1,h.2.symm⟩)))
      replace hS:=hS.drewN nq;clear x0 x1 x2 MV;go_wp2_with (fail)
      exact⟨⟨i+1,by omega,by go_num,hS.drop⟩,by simp[intOf];omega⟩
    . have d4:(ek==2)=false:=by simpa using hk2
      clear k4 hk2;go_wp2_with ( (first|(refine aN 6 ?_;clear hS;intro X6 w hS)|(refine aG ?_)|(refine aL ?_)|(refine aS ?_;clear hS;intro w hS)))
      have x0:w.cell? ⟨X6,0,none⟩=some (.int .i64 ea):=hS.cell_of (.head _) 0;have x1:w.cell? ⟨X6,1,none⟩=some (.int .i64 ek):=hS.cell_of (.head _) 1;have x2:w.cell? ⟨X6,2,none⟩=some (.int .i64 el):=hS.cell_of (.head _) 2;have MV:=yH (λk=>mVars_any (w:=w.drewN k) (HA.out.read.le ((hS.drewN k).mle (k:=1) rfl)));go_quiet ((go_at_call 59;exact Calls.quiet_of_same ((MV.out _).mono λe w' h=>⟨h.1,h.2.symm⟩)))
      replace hS:=hS.drewN nq;clear x0 x1 x2 MV;go_wp2_with (fail)
      exact⟨⟨i+1,by omega,by go_num,hS.drop⟩,by simp[intOf];omega⟩
  . obtain rfl:i=N:=by omega
    have hfit:=HA.out.fit;obtain⟨S,M,H,wv,mS,mM,mH,mW,hSt,hMe,hHs,hW,hS⟩:=HA.out.open_ hS;obtain rfl:=(hW.2.2 hf).1;have fin:=λ(v':Value) (mW':PH) (w':World) (h1:WtR mW' v' l false) (h:Sat E I (PH.one D (.cells (Xe S M H (m.next:Int) v' 0) 117)::mS::mM::mH::mW'::ms) w')=>MgAt.close (m:={ m with waits:=l,calls:=0,fresh:=false }) (D:=D) (S:=S) (M:=M) (H:=H) ⟨hfit.1,by show (-9223372036854775808:Int)<=0;decide,by show (0:Int)<=9223372036854775807;decide⟩ hSt hMe hHs h1 h
    have HF:=yH fin;clear fin hSt hMe hHs hW hfit HA HEv HCel r4;unfold Xe at hS HF;replace hS:=hS.empty;have HLl:=yH (λ(v':Value) (m':PH) (h:OwnP m' 85 3 v' (0+i) ([]++l.flatMap gevC))=>(show WtR m' v' l false from OwnP.wt (by rw[HLn.out,jLb,List.nil_append] at *;exact h)));generalize l.flatMap gevC=news at *
    go_wp2_with (first|((with_reducible refine isAppend ?_);refine apS (m:=Ku) (n:=0) (xs:=[]) (news:=news) 0 (.inl (PH.le.refl _)) hS rfl rfl rfl Tryz.underlying36 ev_info rfl (by decide) rfl (OwnP.nil _ _) rfl HFl.out HRow.out HAll.out (by unfold maxLen;omega) (by omega) ?_;clear hS;intro v' m' w hO hS;refine Veil.out ?_;obtain⟨A',c',rfl,_⟩:=OwnP.shape hO;refine⟨?_⟩;have HO:=yH hO;clear hO;simp only[zG] at hS;refine aM ?_)|(refine aL ?_)|(refine aS ?_;clear hS;intro w hS))
    go_ret;have hw:=HLl.out _ _ HO.out;have h5:=(hS.pick 5 rfl).drop;simp only[List.eraseIdx_cons_succ,List.eraseIdx_cons_zero] at h5;have h6:=h5.pick 4 rfl;simp only[List.eraseIdx_cons_succ,List.eraseIdx_cons_zero] at h6;have h7:=h6.pick 4 rfl;simp only[List.eraseIdx_cons_succ,List.eraseIdx_cons_zero] at h7;have h8:=h7.pick 4 rfl;simp only[List.eraseIdx_cons_succ,List.eraseIdx_cons_zero] at h8;have h9:=h8.pick 4 rfl;simp only[List.eraseIdx_cons_succ,List.eraseIdx_cons_zero] at h9;exact⟨rfl,HF.out _ _ _ hw h9⟩
end
end Go.Proofs.YtidamcdklgfogaaGreat
