import Derived.Test.YtidamcdklgfogaaGreatDoorUaz
set_option linter.unusedVariables false
set_option linter.unusedSimpArgs false
set_option maxRecDepth 100000
set_option maxHeartbeats 8000000
namespace Go.Proofs.YtidamcdklgfogaaGreatDoor
namespace G
def cntH (hs:List (Int × Nat)) (i:Nat):Int:=((hs.filter fun p=>p.2 / 2 == i).length:Nat)
theorem cntH_pos {hs:List (Int × Nat)} {p:Int × Nat} (hp:p ∈ hs):0<cntH hs (p.2 / 2):=by
 unfold cntH
 have:p ∈ hs.filter fun q=>q.2 / 2 == p.2 / 2:=jRb.2 ⟨hp,by simp⟩
 have:=kM this;omega
theorem cntH_ex {hs:List (Int × Nat)} {i:Nat} (h:0<cntH hs i):∃ p ∈ hs,p.2 / 2=i:=by
 unfold cntH at h;obtain ⟨p,hp⟩:=List.exists_mem_of_length_pos (l:=hs.filter fun p=>p.2 / 2 == i) (by omega);obtain ⟨h1,h2⟩:=jRb.1 hp;exact ⟨p,h1,by simpa using h2⟩
def EvOk (n:Nat) (ev:Ev):Prop:=ev.kind=1\/(ev.kind=2/\0<=ev.level/\ev.level+1<n)\/ev.kind=3
structure Snd (S:Sem) (n c:Nat) (m:Mg):Prop where
 ok:StOk m.hs.length m.s
 me:MeOk S m.s.nd m.me
 vars:m.s.vars.length=n
 keys:∀ p ∈ m.hs,0<=p.1/\p.1<m.next/\val m.s.nd p.2
 nodup:(m.hs.map (·.1)).Nodup
 refs:∀ i,i≠0->Qj m.s.nd i=cntH m.hs i
 c0:m.of 0=some 1
 c1:m.of 1=some 0
 ev:∀ e ∈ m.waits,EvOk n e
 next:2<=m.next/\m.next<=c
def Mg.fn (m:Mg) (h:Int):Option Fn:=(m.of h).map (den m.s.nd)
theorem of_mem {m:Mg} {h:Int} {f:Nat} (he:m.of h=some f):(h,f) ∈ m.hs:=by
 unfold Mg.of at he;cases hf:m.hs.find? (fun p=>p.1 == h) with
 | none=>rw [hf] at he;cases he
 | some p =>
   rw [hf] at he;injection he with he
   have h1:=kQ hf;have h2:=List.find?_some hf;simp at h2
   obtain ⟨a,b⟩:=p;subst he;subst h2;exact h1
theorem of_val {S:Sem} {n c:Nat} {m:Mg} (h:Snd S n c m) {k:Int} {f:Nat} (he:m.of k=some f):val m.s.nd f:=(h.keys _ (of_mem he)).2.2
theorem of_hs {m m':Mg} (h:m'.hs=m.hs) (k:Int):m'.of k=m.of k:=by unfold Mg.of;rw [h]
theorem map_on {α β:Type} {o:Option α} {f g:α->β} (h:∀ a,o=some a->f a=g a):o.map f=o.map g:=by
 cases o with
 | none=>rfl
 | some a=>exact jQb some (h a rfl)
theorem fn_of {m m':Mg} (h:m'.hs=m.hs) (hd:∀ k f,(k,f) ∈ m.hs->den m'.s.nd f=den m.s.nd f):m'.fn=m.fn:=by
 funext k
 have h1:m'.fn k=(m.of k).map (den m'.s.nd):=by rw [<- of_hs h];rfl
 rw [h1];exact map_on fun f he=>hd k f (of_mem he)
theorem Snd.grew {S:Sem} {n c K:Nat} {m m':Mg} (h:Snd S n c m) (g:Grew S m.hs.length K m m') (hw:∀ e ∈ m'.waits,e ∈ m.waits):Snd S n c m'/\m'.fn=m.fn :=
 ⟨⟨by rw [g.hs];exact g.ok,g.me,by rw [g.gro.vars];exact h.vars,fun p hp=>by rw [g.hs] at hp;rw [g.next];obtain ⟨h1,h2,h3⟩:=h.keys p hp;exact ⟨h1,h2,g.gro.val h3⟩,by rw [g.hs];exact h.nodup,
   fun i hi=>by rw [g.gro.refs,g.hs];exact h.refs i hi,by rw [of_hs g.hs];exact h.c0,by rw [of_hs g.hs];exact h.c1,fun e he=>h.ev e (hw e he),by rw [g.next];exact h.next⟩,
  fn_of g.hs fun k f hp=>g.gro.dens _ (h.keys _ hp).2.2⟩
structure Stay (m m':Mg):Prop where
 hs:m'.hs=m.hs
 next:m'.next=m.next
 waits:m'.waits=m.waits
 calls:m'.calls=m.calls
 room:m'.s.pl.room=m.s.pl.room
 fn:m'.fn=m.fn
 fresh:m'.fresh=m.fresh
theorem Stay.trans {m m' m'':Mg} (h:Stay m m') (k:Stay m' m''):Stay m m'':=⟨k.hs.trans h.hs,k.next.trans h.next,k.waits.trans h.waits,k.calls.trans h.calls,k.room.trans h.room,k.fn.trans h.fn,k.fresh.trans h.fresh⟩
theorem Stay.refl (m:Mg):Stay m m:=⟨rfl,rfl,rfl,rfl,rfl,rfl,rfl⟩
theorem Snd.stay {S:Sem} {n c:Nat} {m:Mg} (h:Snd S n c m) {s:St} (ok:StOk m.hs.length s) (hv:s.vars.length=m.s.vars.length) (hroom:s.pl.room=m.s.pl.room) (hr:∀ i,i≠0->Qj s.nd i=Qj m.s.nd i)
  (hd:∀ e,val m.s.nd e->val s.nd e->∀ ρ,den s.nd e ρ=den m.s.nd e ρ):Snd S n c { m with s:=s,me:=Memo.none }/\Stay m { m with s:=s,me:=Memo.none }:=by
 have hval:∀ p ∈ m.hs,val s.nd p.2:=fun p hp=>by
  by_cases h0:p.2 / 2=0
  . exact .inl h0
  . have h1:=h.refs _ h0
    have h2:=cntH_pos hp;rw [<- h1,<- hr _ h0] at h2;refine .inr ?_;unfold Qj at h2;cases hn:s.nd (p.2 / 2) with
    | none=>rw [hn] at h2;exact absurd h2 (by decide)
    | some k=>rfl
 refine ⟨⟨ok,MeOk.none _ _,hv.trans h.vars,fun p hp=>⟨(h.keys p hp).1,(h.keys p hp).2.1,hval p hp⟩,h.nodup,fun i hi=>(hr i hi).trans (h.refs i hi),h.c0,h.c1,h.ev,h.next⟩,rfl,rfl,rfl,rfl,hroom,fn_of rfl (fun k f hp=>funext (hd _ (h.keys _ hp).2.2 (hval _ hp))),rfl⟩
theorem Coll.refs {B:Nat} {s s':St} (h:StOk B s) (c:Coll B s s') (i:Nat):Qj s'.nd i=Qj s.nd i:=by
 have hnd:=c.nd;unfold Qj;rw [hnd];simp only [];by_cases hc:Qx s i=0
 . rw [jAa hc]
   cases hn:s.nd i with
   | none=>rfl
   | some n =>
     show (0:Int)=n.refs
     by_cases hpos:n.refs=0
     . rw [hpos];rfl
     . have:=(h.live_iff hn).2 ⟨i,by unfold Qj;rw [hn];show (0:Int)<n.refs;omega,.here hn⟩
       omega
 . rw [jAb hc]
theorem Coll.vald {B:Nat} {s s':St} (c:Coll B s s'):∀ e,val s.nd e->val s'.nd e->∀ ρ,G.den s'.nd e ρ=G.den s.nd e ρ:=fun e _ h2=>c.den e h2
theorem Snd.collect {S:Sem} {n c:Nat} {m:Mg} (h:Snd S n c m):∃ m' k,m.collect=some (m',k)/\Snd S n c m'/\Stay m m'/\m'.s.dead=0/\m'.s.vars=m.s.vars/\m'.me=Memo.none:=by
 obtain ⟨s',r,cl⟩:=h.ok.collect;obtain ⟨h1,h2⟩:=h.stay cl.ok (by rw [cl.vars]) cl.room (fun i _=>cl.refs h.ok i) cl.vald;refine ⟨_,m.s.dead,?_,h1,h2,cl.dead,cl.vars,rfl⟩;unfold Mg.collect;rw [r];rfl
theorem Snd.swap {S:Sem} {n c:Nat} {m:Mg} (h:Snd S n c m) (hb:m.hs.length<1152921504606846976) {k:Nat} (hk:k+1<n):∃ s' e,m.s.swap k=some (s',e)/\Snd S n c { m with s:=s',me:=Memo.none }/\Stay m { m with s:=s',me:=Memo.none }/\s'.dead=0 /\
  ((e=7/\s'.vars=m.s.vars/\m.s.pl.room<3 * many s'.pl.slots)\/(e=0/\s'.vars=(m.s.vars.set k (m.s.vars.getD (k+1) 0)).set (k+1) (m.s.vars.getD k 0))):=by
 obtain ⟨s0,cl,hsw⟩:=h.ok.swap hb (k:=k) (by rw [h.vars];exact hk);obtain ⟨h1,h2⟩:=h.stay cl.ok (by rw [cl.vars]) cl.room (fun i _=>cl.refs h.ok i) cl.vald;rcases hsw with ⟨r,hr⟩|⟨s2,r,sw⟩
 . exact ⟨s0,7,r,h1,h2,cl.dead,.inl ⟨rfl,cl.vars,by rw [cl.room] at hr;exact hr⟩⟩
 . have hv:s2.vars=(m.s.vars.set k (m.s.vars.getD (k+1) 0)).set (k+1) (m.s.vars.getD k 0):=by rw [sw.vars];unfold St.flipLev;simp only [cl.vars]
   have:=h1.stay (s:=s2) sw.ok (by rw [hv];simp [cl.vars]) sw.room (fun i _=>sw.refs i) sw.dens;exact ⟨s2,0,r,this.1,h2.trans this.2,sw.dead,.inr ⟨rfl,hv⟩⟩
theorem swap_bad {s:St} {level:Int} (h:level<0\/level≥(s.vars.length:Int) - 1):s.swap level=some (s,2):=by unfold St.swap;rw [jAa h]
theorem Snd.swaps {S:Sem} {n c:Nat}:∀ (l:List Nat) {m:Mg},Snd S n c m->m.hs.length<1152921504606846976->(∀ k ∈ l,k+1<n)->∃ s',m.s.swaps l=some s'/\Snd S n c { m with s:=s',me:=Memo.none }/\Stay m { m with s:=s',me:=Memo.none }
 | [],m,h,_,_=>⟨m.s,rfl,h.stay h.ok rfl rfl (fun _ _=>rfl) fun _ _ _ _=>rfl⟩
 | k::l,m,h,hb,hk=>by
   obtain ⟨s1,e,h1,h2,h3,_⟩:=h.swap hb (hk k (.head _));obtain ⟨s2,h4,h5,h6⟩:=Snd.swaps l h2 hb fun x hx=>hk x (.tail _ hx)
   refine ⟨s2,?_,h5,h3.trans h6⟩;unfold St.swaps;rw [h1];exact h4
theorem downTo_lt {i n k:Nat} (h:k ∈ downTo i n):k+1<=i+n:=by
 unfold downTo at h;obtain ⟨x,hx,rfl⟩:=jF.1 h
 have:=jZb.1 hx;omega
theorem steps_lt:∀ (b:List Nat) (i:Nat) (now:List Nat),i+b.length<=now.length->(∀ v ∈ b,v ∈ now)->∀ k ∈ stepsP i b now,k+1<now.length
 | [],i,now,_,_,k,hk=>by unfold stepsP at hk;cases hk
 | v::b,i,now,hi,hb,k,hk=>by
   unfold stepsP at hk;simp only [yB] at hi;have hv:now.idxOf v<now.length:=List.idxOf_lt_length_of_mem (hb v (.head _));have hl:(now.eraseIdx (now.idxOf v)).length=now.length - 1:=kBb hv;have hlen:((now.eraseIdx (now.idxOf v)).insertIdx i v).length=now.length:=by
    rw [kP (by omega),hl];omega
   rcases jIa.1 hk with hk|hk
   . have h1:=downTo_lt hk
     by_cases h4:now.idxOf v<=i
     . rw [show now.idxOf v - i=0 by omega] at hk
       cases hk
     . omega
   . have:=steps_lt b (i+1) _ (by rw [hlen];omega) (fun x hx=>?_) k hk
     . rwa [hlen] at this
     . rw [List.mem_insertIdx (by omega)]
       by_cases hxv:x=v
       . exact .inl hxv
       . refine .inr (List.mem_eraseIdx_iff_getElem?.2 ?_)
         obtain ⟨j,hj,e⟩:=List.getElem_of_mem (hb x (.tail _ hx));refine ⟨j,?_,by rw [yA hj,e]⟩;rintro rfl;exact hxv (by rw [<- e];exact List.getElem_idxOf hv)
theorem Snd.happen {S:Sem} {n c:Nat} {m:Mg} (h:Snd S n c m) (hb:m.hs.length<1152921504606846976) {ev:Ev} (he:EvOk n ev):∃ m',m.happen ev=some m'/\Snd S n c m'/\Stay m m':=by
 unfold Mg.happen;rcases he with h1|⟨h1,h2,h3⟩|h1
 . rw [jAa h1]
   obtain ⟨m',k,r,h2,h3,_⟩:=h.collect;refine ⟨m',?_,h2,h3⟩;unfold Mg.collect at r;cases hc:m.s.collect with
   | none=>rw [hc] at r;cases r
   | some q=>rw [hc] at r;simp only [Option.map_some,jEb,jQa] at r ⊢;exact r.1
 . rw [jAb (by omega),jAa h1]
   obtain ⟨j,hj⟩:∃ j:Nat,ev.level=(j:Int):=⟨ev.level.toNat,by omega⟩;rw [hj];obtain ⟨s',e,r,h4,h5,_⟩:=h.swap hb (k:=j) (by omega);rw [r];exact ⟨_,rfl,h4,h5⟩
 . rw [jAb (by omega),jAb (by omega)]
   obtain ⟨s',r,h4,h5⟩:=Snd.swaps (stepsP 0 m.s.vars.reverse m.s.vars) h hb (fun k hk=>by
    have:=steps_lt m.s.vars.reverse 0 m.s.vars (by simp) (fun v hv=>List.mem_reverse.1 hv) k hk
    rwa [h.vars] at this)
   rw [r];exact ⟨_,rfl,h4,h5⟩
theorem below_all {n:Nat} {s:St} {B:Nat} (h:StOk B s) (hn:s.vars.length=n):∀ (l:List (Int × Nat)),∃ L:List Tb,L.Nodup/\(∀ y,y ∈ L↔∃ p ∈ l,Sr s.vars (s.tb p.2) y)/\L.length<=l.length * 2 ^ (n+1)
 | []=>⟨[],.nil,by simp,by simp⟩
 | p::l=>by
   obtain ⟨L,h1,h2,h3⟩:=below_all h hn l;have ho:=h.pm.ordr;have hx:IsT s.vars.length (s.tb p.2):=isT_tb s p.2;have hL:∀ y ∈ L,IsT s.vars.length y:=fun y hy=>by
    obtain ⟨q,_,hq⟩:=(h2 y).1 hy;exact (Sr.lift ho hq (isT_tb s q.2)).1
   have hc:Clo s.vars.length s.vars (rkT s.vars (s.tb p.2)) L:=fun y hy _ z hz=>by
    obtain ⟨q,hq,hs⟩:=(h2 y).1 hy;exact (h2 z).2 ⟨q,hq,Sr.trans ho hs (isT_tb s q.2) hz⟩
   obtain ⟨k1,k2,_⟩:=belowT_ok ho (n+1) (s.tb p.2) L hx hL h1 hc (by omega);refine ⟨belowT (n+1) s.vars (s.tb p.2) L,k1,fun y=>?_,?_⟩
   . rw [k2,h2]
     constructor
     . rintro (⟨q,hq,hs⟩|hs)
       . exact ⟨q,.tail _ hq,hs⟩
       . exact ⟨p,.head _,hs⟩
     . rintro ⟨q,hq,hs⟩
       rcases jBa.1 hq with rfl|hq
       . exact .inr hs
       . exact .inl ⟨q,hq,hs⟩
   . have:=belowT_len (n+1) s.vars (s.tb p.2) L
     rw [yB,kFb];omega
theorem Snd.live {S:Sem} {n c:Nat} {m:Mg} (h:Snd S n c m):many m.s.pl.slots<=m.hs.length * 2 ^ (n+1)+m.s.dead:=by
 obtain ⟨L,h1,h2,h3⟩:=below_all h.ok h.vars m.hs
 have:=h.ok.live_eq h1 fun y=>?_
 . omega
 . rw [h2]
   constructor
   . rintro ⟨p,hp,hs⟩
     have hv:=(h.keys p hp).2.2;obtain ⟨j,hr,hy⟩:=(h.ok.sr_iff hv y).1 hs;refine ⟨p.2 / 2,j,?_,hr,hy⟩;obtain ⟨⟨k,hk⟩,_⟩:=hr.some;have h0:p.2 / 2≠0:=by intro e;rw [e,h.ok.can.g0] at hk;cases hk
     rw [h.refs _ h0];exact cntH_pos hp
   . rintro ⟨i,j,hi,hr,hy⟩
     obtain ⟨⟨k,hk⟩,_⟩:=hr.some;have h0:i≠0:=by rintro rfl;rw [h.ok.can.g0] at hk;cases hk
     rw [h.refs _ h0] at hi;obtain ⟨p,hp,rfl⟩:=cntH_ex hi;exact ⟨p,hp,(h.ok.sr_iff (h.keys p hp).2.2 y).2 ⟨j,hr,hy⟩⟩
theorem Snd.run {α:Type} {S:Sem} {n c K:Nat} {Φ:Int->Option Fn} {H:List (Int × Nat)} {F:Mg->Step α} {R:Mg->α ⊕ Nat->Prop} (hb:H.length<1152921504606846976)
  (hF:∀ m,Snd S n c m->m.fn=Φ->m.hs=H->Runs S H.length K m (F m) R):∀ (k:Nat) (room:Bool) (m:Mg),Snd S n c m->m.fn=Φ->m.hs=H->(room=true->many m.s.pl.slots+K<=m.s.pl.room) ->
  H.length * 2 ^ (n+1)+K<=m.s.pl.room->2 * m.waits.length+(if room=true then 0 else 1)<k->∃ m' x,Mg.run F k room m=some (m',x)/\R m' x/\Snd S n c m'/\m'.fn=Φ/\m'.hs=H/\m'.next=m.next/\m'.s.pl.room=m.s.pl.room/\m'.fresh=m.fresh/\∃ l,m.waits=l ++ m'.waits
 | 0,room,m,_,_,_,_,_,hk=>by omega
 | k+1,room,m,h,hf,hh,hr,hroom,hk=>by
   obtain ⟨m',r,e1,g,e2⟩:=hF m h hf hh;unfold Mg.run;rw [e1];rw [<- hh] at g;cases r with
   | ok a =>
     obtain ⟨h1,h2⟩:=h.grew g (fun e he=>by rw [e2.1] at he;exact he);exact ⟨m',.inl a,rfl,e2.2,h1,h2.trans hf,g.hs.trans hh,g.next,g.gro.room,g.fresh,[],by rw [e2.1];rfl⟩
   | stop s=>cases s with
     | event ev =>
       have e2:m.waits=ev::m'.waits:=e2;obtain ⟨h1,h2⟩:=h.grew g (fun e he=>by rw [e2];exact .tail _ he);obtain ⟨m2,r2,h3,h4⟩:=h1.happen (by rw [g.hs,hh];exact hb) (h.ev ev (by rw [e2];exact .head _));simp only [r2,Option.bind_some];obtain ⟨m3,x,q1,q2,q3,q4,q5,q6,q7,q9,l,q8⟩:=Snd.run hb hF k false m2 h3 ((h4.fn.trans h2).trans hf) ((h4.hs.trans g.hs).trans hh) (fun h=>by cases h) (by rw [h4.room,g.gro.room];exact hroom) (by
        rw [h4.waits];rw [e2,yB] at hk;simp only [jE,jS];omega)
       refine ⟨m3,x,q1,q2,q3,q4,q5,by rw [q6,h4.next,g.next],by rw [q7,h4.room,g.gro.room],by rw [q9,h4.fresh,g.fresh],ev::l,?_⟩;rw [e2,<- h4.waits,q8];rfl
     | err e =>
       obtain ⟨h1,h2⟩:=h.grew g (fun e he=>by rw [e2.1] at he;exact he);rcases e2 with ⟨e3,⟨rfl,e4⟩|⟨e4,e5⟩⟩
       . cases room with
         | true=>have:=hr rfl;omega
         | false =>
           obtain ⟨m2,j,r2,h3,h4,h5,_⟩:=h1.collect;have hlive:=h3.live;rw [h5,h4.hs,g.hs,hh] at hlive;simp only [r2,Option.bind_some,and_self,jC];obtain ⟨m3,x,q1,q2,q3,q4,q5,q6,q7,q9,l,q8⟩:=Snd.run hb hF k true m2 h3 ((h4.fn.trans h2).trans hf) ((h4.hs.trans g.hs).trans hh) (fun _=>by rw [h4.room,g.gro.room];omega) (by rw [h4.room,g.gro.room];exact hroom) (by
            rw [h4.waits,e3];simp only [jE,jS] at hk;simp only [jC];omega)
           refine ⟨m3,x,q1,q2,q3,q4,q5,by rw [q6,h4.next,g.next],by rw [q7,h4.room,g.gro.room],by rw [q9,h4.fresh,g.fresh],l,?_⟩;rw [<- e3,<- h4.waits,q8]
       . refine ⟨m',.inr e,?_,e5,h1,h2.trans hf,g.hs.trans hh,g.next,g.gro.room,g.fresh,[],by rw [e3];rfl⟩
         simp only [e4,false_and,jS]
end G
section
open Go.RowKit
def IntR (I:PH) (v:Value) (l:List Int):Prop:=(∃ A c,v=.slice A l.length c)/\(0<l.length->∃ X c,v=.slice (some ⟨X,0,none⟩) l.length c/\∀ (i:Nat) x,l[i]?=some x->I.at X i=some (.int .i64 x))
theorem IntR.le {I J:PH} {v:Value} {l:List Int} (h:IntR I v l) (hJ:I.le J):IntR J v l:=⟨h.1,fun hl=>by
 obtain ⟨X,c,h1,h2⟩:=h.2 hl;exact ⟨X,c,h1,fun i x hx=>PH.at_le hJ (h2 i x hx)⟩⟩
theorem HsR.del {l:List (Rw Int)} {hs:List (Int × Nat)} (h:HsR l hs) (x:Int):HsR (delR l x) (hs.filter fun p=>p.1 != x):=by
 unfold HsR at h ⊢;unfold delR
 induction l generalizing hs with
 | nil =>
   cases hs with
   | nil=>rfl
   | cons p hs=>cases h
 | cons r l ih =>
   cases hs with
   | nil=>cases h
   | cons p hs =>
     simp only [jD,kHb,jQa] at h;obtain ⟨⟨h1,h2⟩,h3⟩:=h;have ih:=ih h3;by_cases e:r.k=x
     . rw [kTa (by simpa using e),kTa (by simp [<- h1,e])]
       exact ih
     . rw [kT (by simpa using e),kT (by simpa [<- h1] using e),jD,jD,ih,h1,h2]
theorem drop_cons (m:G.Mg) (h:Int) (l:List Int):m.drop (h::l)=match m.of h with
 | none=>some (m,8)
 | some f=>if 1<h then (m.s.drop f).bind fun (s,_)=>G.Mg.drop { m with s:=s,hs:=m.hs.filter fun p=>p.1 != h } l else G.Mg.drop m l:=rfl
theorem mdrop_any {E w:World} {I p:PH} {ms:List PH} {D:Nat} {m m':G.Mg} {l:List Int} {vl:Value} {er:Nat} (hl:IntR I vl l) (hlen:l.length<=1000000) (hb:∀ q ∈ m.hs,q.2<4611686018427387904) (hm:m.drop l=some (m',er)) (hA:MgAt D m p) (hS:Sat E I (p::ms) w) :
  Calls Tryz.prog 58 #[vPt D,vl] w fun e w'=>e=.returned (nv er)/\∃ p',MgAt D m' p'/\Sat E I (p'::ms) w':=by
 obtain ⟨⟨A,c,rfl⟩,hlb⟩:=hl;have HB:=yH hlb;have HH:=yH hb;have HM:=yH hm;have HA:=yH hA;clear hlb hb hm hA;generalize hN:l.length=N at *
 have HLn:=yH hN;clear hN;go_enter Tryz.func58,Tryz.ntmps58;go_wp2_with fail
 go_loopw [13] (fun v13 wr=>∃ (i:Nat) (m1:G.Mg) (p1:PH),i<=N/\v13=.int .i64 (i:Int)/\(∀ q ∈ m1.hs,q.2<4611686018427387904)/\m1.drop (l.drop i)=some (m',er)/\MgAt D m1 p1/\Sat E I (p1::ms) wr) (fun v13 _=>(N - intOf v13).toNat)
 case atStart=>exact ⟨0,m,p,jCa _,rfl,HH.out,HM.out,HA.out,hS⟩
 case round =>
  clear hS HH HM HA;obtain ⟨i,m1,p1,hi,rfl,hb,hm,hA,hS⟩:=hrel;by_cases hlt:i<N
  . obtain ⟨x,hx⟩:∃ x,l[i]?=some x:=⟨_,yA (by rw [HLn.out];exact hlt)⟩
    obtain ⟨Y,c',hY,hcell⟩:=HB.out (by omega);injection hY with hA1 hB1 hC1
    subst hA1 hC1;have hcell:=hcell i _ hx;have hdr:l.drop i=x::l.drop (i+1):=by
     rw [jHa (by rw [HLn.out];exact hlt)];congr 1
     have:=yA (l:=l) (i:=i) (by rw [HLn.out];exact hlt);rw [hx] at this;injection this with this
     exact this.symm
    rw [hdr,drop_cons] at hm;have hiN:(i:Int)<(N:Int):=by omega
    have hfit:=hA.fit;obtain ⟨S,M,H,wv,mS,mM,mH,mW,hSt,hMe,⟨lr,clock,rfl,hok,hr⟩,hW,hS⟩:=hA.open_ hS;have hq:=hr.get x;have ho:m1.of x=(m1.hs.find? fun p=>p.1 == x).map (·.2):=rfl;rw [<- ho] at hq;have fin:∀ (s':G.St) (hs':List (Int × Nat)) (lr':List (Rw Int)) (mS':PH) (w':World),StAt S s' mS'->MapOk lr' clock->HsR lr' hs'->Sat E I (PH.one D (.cells (Ya S M H (m1.next:Int) wv m1.calls) 109)::mS'::mM::PH.one H (Qk ikey lr' clock)::mW::ms) w'->∃ p',MgAt D { m1 with s:=s',hs:=hs' } p'/\Sat E I (p'::ms) w':=fun s' hs' lr' mS' w' a b c d=>MgAt.close (m:={ m1 with s:=s',hs:=hs' }) hfit a hMe ⟨lr',clock,rfl,b,c⟩ hW d
    have HF:=yH fin;have Hq:=yH hq;have HSt:=yH hSt;have Hok:=yH hok;have Hr:=yH hr;clear fin hq hSt hok hr ho hMe hW hfit hA hdr hx;unfold Ya at hS HF;cases hk:m1.of x with
    | none =>
      rw [hk] at hm Hq;cases hm;clear hk hb;go_wp2_with (first|((with_reducible refine Kz ?_);refine lk2 (x:=x) hS (.inr (.tail _ (.tail _ (.tail _ (.head _))))) (PH.one_self _ _) kI Tryz.underlying107 ty_z96 rfl rfl rfl rfl Hq.out ?_;simp only [Option.map_none,Option.getD_none,Option.isSome_none];(try simp only [Act.put,zE,zF,zG]))|(refine aL ?_))
      go_ret;exact ⟨rfl,HF.out _ _ _ _ _ HSt.out Hok.out Hr.out hS⟩
    | some f =>
      rw [hk] at hm Hq;have hf:=hb _ (G.of_mem hk);simp only at hf hm;by_cases h1:1<x
      . rw [jAa h1] at hm
        cases hd:m1.s.drop (f:Int) with
        | none=>rw [hd] at hm;cases hm
        | some y =>
          obtain ⟨s',e'⟩:=y;rw [hd] at hm;simp only [zK] at hm;have HD:=yH (fun (w:World) (ms':List PH) (h:Sat E I (mS::ms') w)=>sdrop_any hd (by omega) HSt.out h);have HM:=yH hm;have hb':∀ q ∈ m1.hs.filter (fun p=>p.1 != x),q.2<4611686018427387904:=fun q hq=>hb q (jRb.1 hq).1
          have HB':=yH hb';clear hk hb hd hm hb';go_wp2_with (first|((with_reducible refine Kz ?_);refine lk2 (x:=x) hS (.inr (.tail _ (.tail _ (.tail _ (.head _))))) (PH.one_self _ _) kI Tryz.underlying107 ty_z96 rfl rfl rfl rfl Hq.out ?_;simp only [Option.map_some,zJ,Option.isSome_some];(try simp only [Act.put,zE,zF,zG]))|(go_at_call 107;(with_reducible refine yI (HD.out _ _ (hS.pick 1 rfl)) ?_);clear hS;rintro e w ⟨rfl,mS',hSt',hS⟩;have HSt':=yH hSt';clear hSt';replace hS:=Sat.back (m:=mS) 1 rfl hS;simp only [zF,zG] at hS)|((with_reducible refine isDelete ?_);refine dl (x:=x) hS 3 rfl kI Tryz.underlying107 rfl rfl rfl rfl Hok.out ?_;clear hS;intro w hS;simp only [zF,zG] at hS;(try simp only [Act.put]))|(refine aL ?_))
          obtain ⟨p2,hA2,hS2⟩:=HF.out _ _ _ _ _ HSt'.out Hok.out.del (Hr.out.del x) hS;exact ⟨⟨i+1,_,p2,by omega,by go_num,HB'.out,HM.out,hA2,hS2⟩,by simp [intOf];omega⟩
      . rw [jAb h1] at hm
        have HM:=yH hm;have HB':=yH hb;clear hk hb hm;go_wp2_with (first|((with_reducible refine Kz ?_);refine lk2 (x:=x) hS (.inr (.tail _ (.tail _ (.tail _ (.head _))))) (PH.one_self _ _) kI Tryz.underlying107 ty_z96 rfl rfl rfl rfl Hq.out ?_;simp only [Option.map_some,zJ,Option.isSome_some];(try simp only [Act.put,zE,zF,zG]))|(refine aL ?_))
        obtain ⟨p2,hA2,hS2⟩:=HF.out _ _ _ _ _ HSt.out Hok.out Hr.out hS;exact ⟨⟨i+1,_,p2,by omega,by go_num,HB'.out,HM.out,hA2,hS2⟩,by simp [intOf];omega⟩
  . obtain rfl:i=N:=by omega
    have he:l.drop i=[]:=jYb (by rw [HLn.out];exact jBb _);rw [he] at hm;cases hm;have HA:=yH hA;clear he hA hb;go_wp2_with fail
    go_ret;exact ⟨rfl,p1,HA.out,hS⟩
end
section
open Go.RowKit
theorem packTabs {E w:World} {I:PH}:∀ (l:List (Nat × Nat)) (ms:List PH),Sat E I (tabs l ++ ms) w->∃ tms:List PH,tms.length=l.length/\Sat E I (tms ++ ms) w/\∀ (v:Nat) g tm,(l.map (·.1))[v]?=some g->tms[v]?=some tm->TabAt g [] tm
 | [],ms,h=>⟨[],rfl,h,fun v g tm h=>by simp at h⟩
 | (g,M)::l,ms,h=>by
   have h1:Sat E I ([tbv g M,tbm M [] 0] ++ (tabs l ++ ms)) w:=by
    have:tabs ((g,M)::l) ++ ms=[tbv g M,tbm M [] 0] ++ (tabs l ++ ms):=by simp [tabs]
    rw [<- this];exact h
   obtain ⟨m,hb,h2⟩:=Sat.pack [tbv g M,tbm M [] 0] h1;have h3:=h2.perm (jTa (l₁:=tabs l) (l₂:=ms) (a:=m)).symm;obtain ⟨tms,t1,t2,t3⟩:=packTabs l (m::ms) h3;have h4:=t2.perm (jTa (l₁:=tms) (l₂:=ms) (a:=m));refine ⟨m::tms,by simp [t1],h4,fun v g' tm hg ht=>?_⟩;cases v with
   | zero =>
     simp at hg ht
     subst hg ht;exact ⟨M,[],0,hb,MapOk.nil,rfl⟩
   | succ v=>exact t3 v g' tm (by simpa using hg) (by simpa using ht)
theorem idC_list (n:Nat):(idC n n).toList=(List.range n).flatMap ivC:=by
 unfold idC;simp only [Nat.sub_self,List.replicate_zero,jYa];rw [List.flatMap_def];unfold ivC
 induction List.range n with
 | nil=>rfl
 | cons a l ih=>simp [iv,nv] at ih ⊢;exact ih
theorem tabVs_flat (l:List (Nat × Nat)):tabVs l=(l.map (·.1)).flatMap ptC:=by
 unfold tabVs ptC
 induction l with
 | nil=>rfl
 | cons a l ih=>simp [ih]
theorem snew_ok {E w:World} {I:PH} {ms:List PH} (n room:Nat) (hn:n<=64) (h1:1<=room) (h2:room<=1048576) (hS:Sat E I ms w) :
  Calls Tryz.prog 59 #[nv n,nv room] w fun e w'=>∃ S m,e=.returned (.tuple #[vPt S,.int .i64 0])/\StAt S (G.St.new n room) m/\Sat E I (m::ms) w':=by
 refine (nnew_ok E I ms n (room:Int) w hn (by omega) (by omega) hS).mono ?_;rintro e w' ⟨S,L,P,V1,V2,A,T,v,m,l,rfl,hl,hO,h⟩;refine ⟨S,?_⟩;unfold stP at h;have e1:(PH.one S (.cells (stV L P v) 154)::m::tabs l ++ [PH.one L (.cells #[vSl n V1,vSl n V2] 156),PH.one V2 (.cells (idC n n) 3),PH.one V1 (.cells (idC n n) 3),PH.one P (.cells #[.int .i64 (room:Int),vSl 1 A,vSl 1 T,.slice none 0 0,.int .i64 0] 215),PH.one A (.cells node0 162),PH.one T (.cells #[.bool false] 4)] ++ ms) =
  (PH.one S (.cells (stV L P v) 154)::m::tabs l) ++ ([PH.one L (.cells #[vSl n V1,vSl n V2] 156),PH.one V2 (.cells (idC n n) 3),PH.one V1 (.cells (idC n n) 3)] ++ ([PH.one P (.cells #[.int .i64 (room:Int),vSl 1 A,vSl 1 T,.slice none 0 0,.int .i64 0] 215),PH.one A (.cells node0 162),PH.one T (.cells #[.bool false] 4)] ++ ms)):=by simp
 rw [e1] at h;have g1:=h.perm (show List.Perm _ ([PH.one P (.cells #[.int .i64 (room:Int),vSl 1 A,vSl 1 T,.slice none 0 0,.int .i64 0] 215),PH.one A (.cells node0 162),PH.one T (.cells #[.bool false] 4)] ++ (((PH.one S (.cells (stV L P v) 154)::m::tabs l) ++ [PH.one L (.cells #[vSl n V1,vSl n V2] 156),PH.one V2 (.cells (idC n n) 3),PH.one V1 (.cells (idC n n) 3)]) ++ ms)) by
  rw [<- jFb,<- jFb,<- jFb];exact (jIb).append_right ms)
 have g2:=g1.empty.perm (show List.Perm _ ([PH.one P (.cells #[.int .i64 (room:Int),vSl 1 A,vSl 1 T,.slice none 0 0,.int .i64 0] 215),PH.one A (.cells node0 162),PH.one T (.cells #[.bool false] 4),(fun _=>none:PH)] ++ (((PH.one S (.cells (stV L P v) 154)::m::tabs l) ++ [PH.one L (.cells #[vSl n V1,vSl n V2] 156),PH.one V2 (.cells (idC n n) 3),PH.one V1 (.cells (idC n n) 3)]) ++ ms)) from (jTa (l₁:=[_,_,_]) (a:=(fun _=>none:PH))).symm);obtain ⟨mP,hbP,g3⟩:=Sat.pack [PH.one P (.cells #[.int .i64 (room:Int),vSl 1 A,vSl 1 T,.slice none 0 0,.int .i64 0] 215),PH.one A (.cells node0 162),PH.one T (.cells #[.bool false] 4),(fun _=>none:PH)] g2;have hPool:PoolAt P ⟨room,[none],[]⟩ mP:=by
  refine ⟨⟨h2,show 0<1 by decide,by show 1<=room+1;omega,show 0<=1 by decide,fun i nd h=>?_⟩,A,1,T,1,.slice none 0 0,_,_,_,hbP,?_,?_,?_⟩
  . cases i with
    | zero=>simp at h
    | succ i=>simp at h
  . exact OwnP.lit A 162 5 1 node0 (by decide) rfl
  . exact OwnP.lit T 4 1 1 #[.bool false] (by decide) rfl
  . exact OwnP.nil _ _
 have g4:=g3.perm (show List.Perm _ (tabs l ++ (PH.one S (.cells (stV L P v) 154)::PH.one L (.cells #[vSl n V1,vSl n V2] 156)::PH.one V1 (.cells (idC n n) 3)::PH.one V2 (.cells (idC n n) 3)::mP::m::ms)) by
  refine List.Perm.trans ?_ (jIb (l₁:=(PH.one S (.cells (stV L P v) 154)::PH.one L (.cells #[vSl n V1,vSl n V2] 156)::PH.one V1 (.cells (idC n n) 3)::PH.one V2 (.cells (idC n n) 3)::mP::m::ms)) (l₂:=tabs l))
  classical
  rw [List.perm_iff_count];intro a;simp only [List.count_cons,List.count_append,List.count_nil];omega)
 obtain ⟨tms,t1,t2,t3⟩:=packTabs l _ g4;have g5:=t2.empty.perm (show List.Perm _ (PH.one S (.cells (stV L P v) 154)::PH.one L (.cells #[vSl n V1,vSl n V2] 156)::PH.one V1 (.cells (idC n n) 3)::PH.one V2 (.cells (idC n n) 3)::mP::m::(fun _=>none:PH)::(tms ++ ms)) by
  classical
  rw [List.perm_iff_count];intro a;simp only [List.count_cons,List.count_append];omega)
 have hz:idC n n=((List.range n).flatMap ivC).toArray:=by rw [<- idC_list]
 have hlit:∀ V,OwnP (PH.one V (.cells (idC n n) 3)) 3 1 (vSl n V) (List.range n).length ((List.range n).flatMap ivC):=fun V=>by
  have:=OwnP.lit V 3 1 n (idC n n) (jL hn (by decide)) (by rw [idC_size (jBb n)];omega);rw [idC_list] at this;rw [List.length_range];exact this
 obtain ⟨m',hA,hS'⟩:=StAt.close (s:=G.St.new n room) (L:=L) (P:=P) (vV:=vSl n V1) (vL:=vSl n V2) (vT:=v) (vC:=.slice none 0 0) (gs:=l.map (·.1)) (tms:=tms)
  ⟨by simp [G.St.new];omega,by simp [G.St.new];omega,by simp [G.St.new];omega,by simp [G.St.new],by simp [G.St.new],by simp [G.St.new],fun c hc=>by simp [G.St.new] at hc;omega,fun c hc=>by simp [G.St.new] at hc;omega⟩
  (hlit V1) (hlit V2) hPool (by show OwnP _ _ _ _ (List.replicate n []).length _;rw [kGb,<- tabVs_flat];exact hO) (OwnP.nil _ _) (by simp [G.St.new,hl]) (by simp [G.St.new,t1,hl]) (fun x g t tm e1 e2 e3=>by
    have:t=[]:=by
     have e2:(List.replicate n ([]:List G.Ent))[x]?=some t:=e2;rw [kSb] at e2;split at e2
     . injection e2 with e2;exact e2.symm
     . cases e2
    subst this;exact t3 x g tm e1 e3) g5
 exact ⟨m',rfl,hA,hS'⟩
end
namespace G
variable {S:Sem} {n c:Nat} {m:Mg}
theorem of_append {hs:List (Int × Nat)} {k h:Int} {f:Nat} (hk:∀ p ∈ hs,p.1≠k):((hs ++ [(k,f)]).find? fun p=>p.1 == h).map (·.2)=if h=k then some f else (hs.find? fun p=>p.1 == h).map (·.2):=by
 rw [List.find?_append];by_cases e:h=k
 . subst e
   have:hs.find? (fun p=>p.1 == h)=none:=kN.2 fun p hp=>by simpa using hk p hp
   rw [this,jAa rfl];simp
 . rw [jAb e]
   have:([(k,f)]:List (Int × Nat)).find? (fun p=>p.1 == h)=none:=by simp;omega
   rw [this];simp
structure Given (m m':Mg) (φ:Fn):Prop where
 hs:∃ f,m'.hs=m.hs ++ [((m.next:Int),f)]
 next:m'.next=m.next+1
 waits:m'.waits=m.waits
 calls:m'.calls=m.calls
 room:m'.s.pl.room=m.s.pl.room
 many:many m'.s.pl.slots=many m.s.pl.slots
 vars:m'.s.vars=m.s.vars
 lev:m'.s.lev=m.s.lev
 fresh:m'.fresh=m.fresh
 fn:∀ h,m'.fn h=if h=(m.next:Int) then some φ else m.fn h
theorem SameG.meOk {G G':Gr} (h:SameG G G') {me:Memo} (o:MeOk S G me):MeOk S G' me:=fun i e he=>by
 obtain ⟨h1,h2,h3,h4,h5⟩:=o i e he;refine ⟨h.val.2 h1,h.val.2 h2,h.val.2 h3,h.val.2 h4,?_⟩;rw [h.den,h.den,h.den,h.den,h5]
theorem Snd.give (h:Snd S n c m) (hb:m.hs.length<1152921504606846976) (hc:c<big) {f:Nat} (hf:val m.s.nd f):∃ m',m.give f=some (m',m.next)/\Snd S n (c+1) m'/\Given m m' (den m.s.nd f):=by
 obtain ⟨s',r,ok,re⟩:=h.ok.hold hf hb;have hnew:∀ p ∈ m.hs,p.1≠(m.next:Int):=fun p hp=>by have:=(h.keys p hp).2.1;omega
 have hof:∀ k,Mg.of { m with s:=s',hs:=m.hs ++ [((m.next:Int),f)],next:=m.next+1 } k=if k=(m.next:Int) then some f else m.of k:=fun k=>of_append hnew
 have hn:=h.next;have hrefs:∀ i,i≠0->Qj s'.nd i=cntH (m.hs ++ [((m.next:Int),f)]) i:=fun i hi=>by
  have hcnt:cntH (m.hs ++ [((m.next:Int),f)]) i=cntH m.hs i+(if f / 2=i then 1 else 0):=by
   unfold cntH;rw [List.filter_append,yG];by_cases e:f / 2=i
   . rw [jAa e,kT (by simpa using e)];simp
   . rw [jAb e,kTa (by simpa using e)];simp
  rw [hcnt,<- h.refs i hi];cases hs:m.s.nd i with
  | some k =>
    rw [re.refs i (by rw [hs];rfl)];unfold Qt;by_cases e:i=f / 2
    . rw [jAa e,jAa e.symm]
    . rw [jAb e,jAb (fun q=>e q.symm)];omega
  | none =>
    have e:f / 2≠i:=by
     rintro rfl;rcases hf with h0|h0
     . exact hi h0
     . rw [hs] at h0;cases h0
    rw [jAb e];unfold Qj;rw [re.same.none hs,hs];rfl
 refine ⟨{ m with s:=s',hs:=m.hs ++ [((m.next:Int),f)],next:=m.next+1 },?_,⟨?_,?_,?_,?_,?_,?_,?_,?_,?_,?_⟩,⟨⟨f,rfl⟩,rfl,rfl,rfl,re.room,re.many,re.vars,re.lev,rfl,?_⟩⟩
 . unfold Mg.give
   rw [jAb (by omega),r];rfl
 . show StOk (m.hs ++ [_]).length s'
   rw [yG];exact ok
 . exact re.same.meOk h.me
 . show s'.vars.length=n
   rw [re.vars];exact h.vars
 . intro p hp
   have hp:p ∈ m.hs ++ [((m.next:Int),f)]:=hp;rcases jIa.1 hp with hp|hp
   . obtain ⟨h1,h2,h3⟩:=h.keys p hp
     exact ⟨h1,by show p.1<((m.next+1:Nat):Int);omega,re.same.val.2 h3⟩
   . rw [jMa] at hp
     subst hp;exact ⟨by show (0:Int)<=(m.next:Int);omega,by show (m.next:Int)<((m.next+1:Nat):Int);omega,re.same.val.2 hf⟩
 . show ((m.hs ++ [((m.next:Int),f)]).map (·.1)).Nodup
   rw [jH];refine jZa.2 ⟨h.nodup,by simp,fun a ha b hb=>?_⟩;obtain ⟨p,hp,rfl⟩:=jF.1 ha;simp at hb;subst hb
   exact hnew p hp
 . exact hrefs
 . rw [hof,jAb (by omega)];exact h.c0
 . rw [hof,jAb (by omega)];exact h.c1
 . exact h.ev
 . exact ⟨by show 2<=m.next+1;omega,by show m.next+1<=c+1;omega⟩
 . intro k
   have:Mg.fn { m with s:=s',hs:=m.hs ++ [((m.next:Int),f)],next:=m.next+1 } k=(if k=(m.next:Int) then some f else m.of k).map (den s'.nd):=by rw [<- hof k];rfl
   rw [this];by_cases e:k=(m.next:Int)
   . rw [jAa e,jAa e,Option.map_some,re.same.den]
   . rw [jAb e,jAb e]
     exact map_on fun a _=>re.same.den a
theorem Snd.mono {c':Nat} (h:Snd S n c m) (hc:c<=c'):Snd S n c' m:=⟨h.ok,h.me,h.vars,h.keys,h.nodup,h.refs,h.c0,h.c1,h.ev,⟨h.next.1,by have:=h.next.2;omega⟩⟩
theorem Snd.do_ {K:Nat} {F:Mg->Step Nat} {R:Mg->Nat ⊕ Nat->Prop} (h:Snd S n c m) (hb:m.hs.length<1152921504606846976) (hc:c<big) (hw:m.waits.length<1000000)
  (hF:∀ m',Snd S n c m'->m'.fn=m.fn->m'.hs=m.hs->Runs S m.hs.length K m' (F m') R) (hroom:m.hs.length * 2 ^ (n+1)+K<=m.s.pl.room) (hv:∀ m' r,R m' (.inl r)->val m'.s.nd r) :
  ∃ m' x,Snd S n c m'/\m'.fn=m.fn/\m'.hs=m.hs/\m'.next=m.next/\m'.s.pl.room=m.s.pl.room/\m'.fresh=m.fresh/\(∃ l,m.waits=l ++ m'.waits)/\R m' x /\
    match x with
    | .inr e=>m.do_ F=some (m',0,e)
    | .inl f=>∃ m2,m.do_ F=some (m2,m.next,0)/\Snd S n (c+1) m2/\Given m' m2 (den m'.s.nd f):=by
 obtain ⟨m',x,h1,h2,h3,h4,h5,h6,h7,h8f,h8⟩:=Snd.run hb hF fuel false m h rfl rfl (fun h=>by cases h) hroom (by
  have:2000002<fuel:=(by decide);simp only [jE,jS];omega)
 refine ⟨m',x,h3,h4,h5,h6,h7,h8f,h8,h2,?_⟩;cases x with
 | inr e=>show m.do_ F=_;unfold Mg.do_;rw [h1]
 | inl f =>
   have hf:=hv m' f h2;obtain ⟨m2,r,h9,h10⟩:=h3.give (by rw [h5];exact hb) hc hf;refine ⟨m2,?_,h9,h10⟩;unfold Mg.do_;rw [h1];simp only [is_nat hf,jC,r,Option.map_some,h6]
theorem StOk.evalE {B:Nat} {s:St} (h:StOk B s) (l:List Bool):∀ (k f:Nat),val s.nd f->rkf (lvf s) s.nd (f / 2)<k->s.evalE k f l=some (den s.nd f (fun v=>l.getD v false))
 | 0,f,_,hk=>by omega
 | k+1,f,hf,hk=>by
   unfold St.evalE;by_cases h0:f / 2=0
   . rw [jAa h0,Qv h.can.g0 h0]
     congr 1
     rcases jRa f with e|e
     . rw [show f=0 by omega]
     . rw [show f=1 by omega]
   . rw [jAb h0]
     cases hn:s.nd (f / 2) with
     | none =>
       rcases hf with e|e
       . exact absurd e h0
       . rw [hn] at e;cases e
     | some n =>
       have ha:s.at_ f=some (n.v,flipIf n.lo (f % 2 == 1),flipIf n.hi (f % 2 == 1)):=by unfold St.at_;rw [hn];rfl
       rw [ha];simp only [];have hk2:=h.can.toAcyc.kid hn (l.getD n.v false);have e:(if l.getD n.v false=true then flipIf n.hi (f % 2 == 1) else flipIf n.lo (f % 2 == 1))=flipIf (if l.getD n.v false=true then n.hi else n.lo) (f % 2 == 1):=by split <;> rfl
       rw [e,h.evalE l k _ (val_flipIf.2 hk2.1) ?_]
       . rw [Ki,Xx h.can.toAcyc hn]
       . rw [Ka]
         by_cases hz:(if l.getD n.v false=true then n.hi else n.lo) / 2=0
         . rw [hz]
           have hr:rkf (lvf s) s.nd 0=0:=by unfold rkf;rw [h.can.g0]
           have:0<rkf (lvf s) s.nd (f / 2):=by
            rw [rkf_some hn]
            have:=(h.pm.lv _ (h.vars _ _ hn)).1
            have:=h.pm.le;omega
           omega
         . have:=hk2.2 hz
           omega
theorem Snd.eval (h:Snd S n c m) {k:Int} {φ:Fn} (hk:m.fn k=some φ) (l:List Bool):m.eval k l=some (φ (fun v=>l.getD v false),0):=by
 unfold Mg.fn at hk;cases ho:m.of k with
 | none=>rw [ho] at hk;cases hk
 | some f =>
   rw [ho] at hk;injection hk with hk
   unfold Mg.eval;simp only [ho];rw [h.ok.evalE l fuel f (of_val h ho) (by have:=rkf_top (lvf m.s) m.s.nd (f / 2);omega),hk];rfl
theorem Snd.varR (h:Snd S n c m) {v:Nat} (hv:v<n):Runs S m.hs.length 1 m (m.mk_ v 1 0) (Isf fun ρ=>ρ v):=by
 have g0:=h.ok.can.g0;have ind:∀ e,e / 2=0->∀ x,Indep (den m.s.nd e) x:=fun e he x=>indep_const g0 he x
 have:=Mg.mk_ok (S:=S) h.ok h.me (v:=v) (lo:=1) (hi:=0) (by rw [h.vars];exact hv) (.inl rfl) (.inl rfl) (fun x _ _=>ind 1 rfl x) (fun x _ _=>ind 0 rfl x);refine this.mono (jBb _) fun m' y _ hy=>?_
 cases y with
 | inr e=>exact hy
 | inl r =>
   refine ⟨hy.1,hy.2.trans (funext fun ρ=>?_)⟩;unfold ite3;rw [den_zero g0,den_one g0];cases ρ v <;> rfl
theorem Snd.iteR (hS1:∀ φ ψ χ,S 1 φ ψ χ=iteF φ ψ χ) (h:Snd S n c m) {f g k:Nat} (hf:val m.s.nd f) (hg:val m.s.nd g) (hk:val m.s.nd k):Runs S m.hs.length (2 ^ n - 1) m (m.ite fuel f g k) (Isf (iteF (den m.s.nd f) (den m.s.nd g) (den m.s.nd k))):=by
 have:=Mg.ite_ok hS1 (B:=m.hs.length) fuel 0 m f g k h.ok h.me hf hg hk (jCa _) (jCa _) (jCa _) (jCa _) (by
  have h1:=h.ok.pm.le
  have:65<fuel:=(by decide);omega)
 rwa [h.vars,Nat.sub_zero] at this
theorem Snd.edgeR (h:Snd S n c m) {k:Int} {φ:Fn} (hk:m.fn k=some φ):Runs S m.hs.length 0 m (m.edge k) (Isf φ):=by
 unfold Mg.fn at hk;unfold Mg.edge;cases ho:m.of k with
 | none=>rw [ho] at hk;cases hk
 | some f =>
   rw [ho] at hk;injection hk with hk
   exact Runs.pure h.ok h.me ⟨of_val h ho,hk⟩
theorem Snd.ofGrew {K:Nat} {m':Mg} (h:Snd S n c m) (g:Grew S m.hs.length K m m') (hw:m'.waits=m.waits):Snd S n c m':=(h.grew g (fun e he=>by rw [hw] at he;exact he)).1
theorem Snd.same (h:Snd S n c m) {k j:Int} {φ ψ:Fn} (hk:m.fn k=some φ) (hj:m.fn j=some ψ):∃ b,m.same k j=(b,0)/\(b=true↔φ=ψ):=by
 unfold Mg.fn at hk hj;cases ho:m.of k with
 | none=>rw [ho] at hk;cases hk
 | some f =>
   cases hp:m.of j with
   | none=>rw [hp] at hj;cases hj
   | some g =>
     rw [ho] at hk;rw [hp] at hj;injection hk with hk
     injection hj with hj
     refine ⟨f == g,?_,?_⟩
     . unfold Mg.same;rw [ho,hp]
     . rw [jVa,<- hk,<- hj]
       exact ⟨fun e=>by rw [e],fun e=>h.ok.can.can f g (of_val h ho) (of_val h hp) fun ρ=>congrFun e ρ⟩
theorem Snd.new {n room:Nat} (hn:n<=64) (h1:1<=room) (hr:room<=1048576):Snd S n 2 (Mg.new n room)/\∀ k,(Mg.new n room).fn k=if k=0 then some (fun _=>false) else if k=1 then some (fun _=>true) else none:=by
 have hof:∀ k,(Mg.new n room).of k=if k=0 then some 1 else if k=1 then some 0 else none:=fun k=>by
  unfold Mg.of Mg.new;by_cases e0:k=0
  . subst e0;rfl
  . by_cases e1:k=1
    . subst e1;rfl
    . have:([(0,1),(1,0)]:List (Int × Nat)).find? (fun p=>p.1 == k)=none:=kN.2 (by simp;omega)
      simp only [this,jAb e0,jAb e1];rfl
 have hnd:=nd_new n room;refine ⟨⟨(StOk.new hn h1 hr).mono (jCa _),MeOk.none _ _,(by show (List.range n).length=n;simp),?_,(by show ([0,1]:List Int).Nodup;decide),?_,hof 0,hof 1,(by intro e he;cases he),⟨jBb _,jBb _⟩⟩,fun k=>?_⟩
 . intro p hp
   have hp:p ∈ [((0:Int),1),(1,0)]:=hp;simp only [jBa,jCb,jKb] at hp;rcases hp with rfl|rfl
   . exact ⟨by decide,by show (0:Int)<((2:Nat):Int);decide,.inl rfl⟩
   . exact ⟨by decide,by show (1:Int)<((2:Nat):Int);decide,.inl rfl⟩
 . intro i hi
   have h0:Qj (Mg.new n room).s.nd i=0:=by unfold Qj;show (match (St.new n room).nd i with|some n=>(n.refs:Int)|none=>0)=0;rw [hnd]
   rw [h0];unfold cntH Mg.new;rw [kU.2]
   . rfl
   . intro p hp
     simp only [jBa,jCb,jKb] at hp;rcases hp with rfl|rfl <;> simp <;> omega
 . have h2:(Mg.new n room).fn k=(if k=0 then some 1 else if k=1 then some 0 else none).map (den (St.new n room).nd):=by rw [<- hof k];rfl
   rw [h2];have g0:(St.new n room).nd 0=none:=hnd 0;by_cases e0:k=0
   . rw [jAa e0,jAa e0,Option.map_some]
     exact jQb some (funext fun ρ=>den_one g0 ρ)
   . rw [jAb e0,jAb e0]
     by_cases e1:k=1
     . rw [jAa e1,jAa e1,Option.map_some]
       exact jQb some (funext fun ρ=>den_zero g0 ρ)
     . rw [jAb e1,jAb e1];rfl
end G
end Go.Proofs.YtidamcdklgfogaaGreatDoor
