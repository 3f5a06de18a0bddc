import Derived.Test.YtidamcdklgfogaaGreatDoorUba
set_option linter.unusedVariables false
set_option linter.unusedSimpArgs false
set_option maxRecDepth 100000
set_option maxHeartbeats 8000000
namespace Go.Proofs.YtidamcdklgfogaaGreatDoor
namespace G
variable {S:Sem} {n:Nat} {m m':Mg}
abbrev Sd (S:Sem) (n:Nat) (m:Mg):Prop:=Snd S n m.next m
structure New (S:Sem) (n:Nat) (m m':Mg) (h:Nat) (φ:Fn) (cost:Nat):Prop where
 ok:Sd S n m'
 len:m'.hs.length=m.hs.length+1
 ge:m.next<=h
 lt:h<m'.next
 cost:m'.next<=m.next+cost
 waits:∃ l,m.waits=l ++ m'.waits
 room:m'.s.pl.room=m.s.pl.room
 fresh:m'.fresh=m.fresh
 fn:∀ k,m'.fn k=if k=(h:Int) then some φ else m.fn k
theorem Given.new {c:Nat} {φ:Fn} (g:Given m m' φ) (h:Snd S n c m') (hm:m.next=c - 1\/m'.next=m.next+1):New S n m m' m.next φ 1 where
 ok:=⟨h.ok,h.me,h.vars,h.keys,h.nodup,h.refs,h.c0,h.c1,h.ev,⟨h.next.1,jBb _⟩⟩
 len:=by obtain ⟨f,hf⟩:=g.hs;rw [hf];simp
 ge:=jBb _
 lt:=by rw [g.next];omega
 cost:=by rw [g.next];exact jBb _
 waits:=⟨[],by rw [g.waits];rfl⟩
 room:=g.room
 fresh:=g.fresh
 fn:=g.fn
theorem doR_ok {K:Nat} {F:Mg->Step Nat} {φ:Fn} (h:Sd S n m) (hw:m.waits.length<1000000) (hb:m.hs.length<1000000) (hc:m.next<big) (hroom:m.hs.length * 2 ^ (n+1)+K<=m.s.pl.room)
  (hF:∀ m',Snd S n m.next m'->m'.fn=m.fn->m'.hs=m.hs->Runs S m'.hs.length K m' (F m') (Isf φ)):∃ m',m.do_ F=some (m',m.next,0)/\New S n m m' m.next φ 1:=by
 obtain ⟨m1,x,q1,q2,q3,q4,q5,q6,q7,q8,q9⟩:=h.do_ (R:=Isf φ) (by omega) hc hw (fun m' a b d=>by rw [<- d];exact hF m' a b d) hroom (fun m' r hr=>hr.1);cases x with
 | inr e=>exact q8.elim
 | inl f =>
   obtain ⟨m2,r,h1,h2⟩:=q9;rw [q8.2] at h2
   have:=h2.new h1 (.inr h2.next);rw [q4] at this;refine ⟨m2,r,⟨this.ok,by rw [this.len,q3],jBb _,by have:=this.lt;rw [h2.next,q4] at this ⊢;omega,by rw [h2.next,q4];exact jBb _,?_,this.room.trans q5,this.fresh.trans q6,fun k=>?_⟩⟩
   . obtain ⟨l,hl⟩:=q7
     exact ⟨l,by rw [h2.waits];exact hl⟩
   . rw [h2.fn,q4,q2]
theorem var_ok (h:Sd S n m) (hw:m.waits.length<1000000) (hb:m.hs.length<1000000) (hc:m.next<big) (hroom:m.hs.length * 2 ^ (n+1)+1<=m.s.pl.room) {v:Nat} (hv:v<n):∃ m',m.var_ v=some (m',m.next,0)/\New S n m m' m.next (fun ρ=>ρ v) 1:=by
 unfold Mg.var_;rw [h.ok.pm.level_nat (by rw [h.vars];exact hv),jAb (by omega)];exact doR_ok h hw hb hc hroom fun m' a _ _=>a.varR hv
inductive Ex where
 | mk (op var:Int) (kids:List Ex)
def foldV (op:Int) (b:Bool) (vs:List Bool):Bool:=if op=5 then vs.foldl (fun a b=>a && b) b else if op=6 then vs.foldl (fun a b=>a || b) b else vs.foldl (fun a b=>a ^^ b) b
def opV (ρ:Nat->Bool) (op var:Int) (vs:List Bool):Bool :=
 if op=1 then true else if op=2 then false else if op=3 then ρ var.toNat else if op=5\/op=6\/op=7 then foldV op (op == 5) vs
 else if op=4 then !(vs.getD 0 false) else if op=8 then (!(vs.getD 0 false) || vs.getD 1 false) else if op=9 then (vs.getD 0 false == vs.getD 1 false) else if vs.getD 0 false then vs.getD 1 false else vs.getD 2 false
mutual
def Ex.v (ρ:Nat->Bool):Ex->Bool
 | .mk op var ks=>opV ρ op var (Ex.vs ρ ks)
def Ex.vs (ρ:Nat->Bool):List Ex->List Bool
 | []=>[]
 | k::ks=>k.v ρ::Ex.vs ρ ks
end
end G
namespace G
variable {S:Sem} {n H:Nat} {m m':Mg}
structure Fit (n H:Nat) (m:Mg) (k q:Nat):Prop where
 hs:m.hs.length+k<=H
 lim:H<1000000
 room:H * 2 ^ (n+1)+2 ^ n<=m.s.pl.room
 waits:m.waits.length<1000000
 next:m.next+q<1000000000000
theorem Fit.lt {k q:Nat} (f:Fit n H m k q):m.hs.length<1000000/\m.next<big:=by
 have:=f.hs;have:=f.lim;have:=f.next
 have:(1000000000000:Nat)<big:=(by decide);omega
end G
namespace G
variable {S:Sem} {n:Nat} {m m':Mg}
end G
section
open Go.RowKit
theorem ddnew_any (n room:Nat) {E w:World} {I:PH} {ms:List PH} (hn:n<=64) (h1:1<=room) (h2:room<=1048576) (hS:Sat E I ms w) :
  Calls Tryz.prog 17 #[nv n,nv room] w fun e w'=>∃ X p,e=.returned (.tuple #[vPt X,.int .i64 0])/\MgAt X (G.Mg.new n room) p/\Sat E I (p::ms) w':=by
 have HN:=yH (snew_ok (E:=E) (I:=I) (ms:=ms) (w:=w) n room hn h1 h2 hS);clear hn h1 h2 hS;go_enter Tryz.func17,Tryz.ntmps17;go_wp2_with (first
  | (go_at_call 59;(with_reducible refine yI HN.out ?_);rintro e w ⟨S,mS,rfl,hSt,hS⟩;have HSt:=yH hSt;clear hSt)
  | ((with_reducible refine isMakeMap ?_);refine mkM ikey hS rfl rfl ?_;clear hS;intro H w hS;(try simp only [Act.put,zE,zF,zG]))
  | ((with_reducible refine isInsert ?_);refine inNew (x:=0) (l:=[]) hS 0 rfl kI Tryz.underlying107 rfl rfl rfl rfl rfl MapOk.nil rfl ?_;clear hS;intro w hS;(try simp only [zG,Act.eval] at hS);(try simp only [Act.put]))
  | ((with_reducible refine isInsert ?_);refine inNew (x:=1) (l:=h0R) hS 0 rfl kI Tryz.underlying107 rfl rfl rfl rfl rfl h0R_ok rfl ?_;clear hS;intro w hS;(try simp only [zG,Act.eval] at hS);(try simp only [Act.put]))
  | (go_at_call 60;(with_reducible refine yI (Go.Proofs.YtidamcdklgfogaaGreatDoor.mnew_any _ _ _ _ hS) ?_);clear hS;rintro e w ⟨M,rfl,hS⟩)
  | (refine aN 23 ?_;clear hS;intro X w hS))
 go_ret2;have hS0:=(hS.pick 1 rfl).empty;simp only [List.eraseIdx_cons_succ,List.eraseIdx_cons_zero] at hS0;obtain ⟨mM,hbM,hS1⟩:=Sat.pack [PH.one M (.cells #[.int .i64 4096,.slice none 0 0,.int .i64 0,.int .i64 0] 149),Zo] (hS0.perm (List.Perm.swap _ _ _));have hS2:=hS1.empty.pick 3 rfl;simp only [List.eraseIdx_cons_succ,List.eraseIdx_cons_zero] at hS2;have hS3:=hS2.pick 2 rfl;simp only [List.eraseIdx_cons_succ,List.eraseIdx_cons_zero] at hS3;have hS4:=hS3.pick 4 rfl;simp only [List.eraseIdx_cons_succ,List.eraseIdx_cons_zero] at hS4;have hS5:=hS4.pick 4 rfl;simp only [List.eraseIdx_cons_succ,List.eraseIdx_cons_zero] at hS5;obtain ⟨p,hA,hS6⟩:=MgAt.close (m:=G.Mg.new n room) (D:=X) (S:=S) (M:=M) (H:=H) (wv:=.slice none 0 0) (mW:=Zo) ⟨by show 2<=G.big;decide,by show (-9223372036854775808:Int)<=0;decide,by show (0:Int)<=9223372036854775807;decide⟩ HSt.out ⟨MeFit.none,.slice none 0 0,Zo,0,0,hbM,.inl ⟨rfl,rfl,rfl⟩⟩ ⟨_,_,rfl,⟨by decide,by decide,by decide⟩,by rfl⟩ ⟨⟨_,_,rfl⟩,fun h=>absurd h (Nat.lt_irrefl 0),fun _=>⟨rfl,rfl⟩⟩ hS5;exact ⟨X,p,rfl,hA,hS6⟩
end
section
open Go.RowKit
theorem G.StOk.saneD {B:Nat} {s:G.St} (h:G.StOk B s):Sane s:=⟨h.pl,fun v=>h.tab_lt v⟩
theorem G.StOk.swap_lenD {B:Nat} {s:G.St} (h:G.StOk B s) (hr:G.many s.pl.slots<=1000000):∀ s0 c,s.collect=some (s0,c)->∀ v,(s0.tab v).length<=1000000:=fun s0 c hc v=>by
 obtain ⟨s1,h1,h2⟩:=h.collect;rw [h1] at hc;cases hc;have h3:=h2.ok.tab_len v;have h4:=h2.many;omega
structure InvS (S:G.Sem) (n c:Nat) (Φ:Int->Option G.Fn) (H:List (Int × Nat)) (r:Nat) (m:G.Mg):Prop where
 ok:G.Snd S n c m
 fn:m.fn=Φ
 hs:m.hs=H
 room:m.s.pl.room=r
theorem InvS.of {S:G.Sem} {n c:Nat} {m:G.Mg} (h:G.Snd S n c m):InvS S n c m.fn m.hs m.s.pl.room m:=⟨h,rfl,rfl,rfl⟩
section
variable {S:G.Sem} {n c r:Nat} {Φ:Int->Option G.Fn} {H:List (Int × Nat)} {m m':G.Mg}
theorem InvS.stay (h:InvS S n c Φ H r m) (h1:G.Snd S n c m') (h2:G.Stay m m'):InvS S n c Φ H r m':=⟨h1,h2.fn.trans h.fn,h2.hs.trans h.hs,h2.room.trans h.room⟩
theorem Snd.of_lt (h:G.Snd S n c m) {k:Int} {a:Nat} (hk:m.of k=some a):a<4194304:=by
 obtain ⟨_,_,h3⟩:=h.keys _ (G.of_mem hk);exact h.ok.val_lt h3
theorem Snd.hs_lt (h:G.Snd S n c m):∀ q ∈ m.hs,q.2<4611686018427387904:=fun q hq=>by
 obtain ⟨_,_,h3⟩:=h.keys _ hq
 have:=h.ok.val_lt h3;omega
theorem Snd.new_none (h:G.Snd S n c m):m.of (m.next:Int)=none:=by
 cases hk:m.of (m.next:Int) with
 | none=>rfl
 | some a =>
   obtain ⟨_,h2,_⟩:=h.keys _ (G.of_mem hk);simp only at h2;omega
theorem Snd.clear (h:G.Snd S n c m):G.Snd S n c { m with me:=G.Memo.none }:=⟨h.ok,G.MeOk.none _ _,h.vars,h.keys,h.nodup,h.refs,h.c0,h.c1,h.ev,h.next⟩
theorem InvS.keeps (hH:H.length<1152921504606846976) (hr:r<=900000):KeepsM (InvS S n c Φ H r) where
 sane:=fun m h=>h.ok.ok.saneD
 pm:=fun m h=>h.ok.ok.pm
 len:=fun m h=>h.ok.ok.swap_lenD (by
  have h1:=h.ok.ok.pl.len;have h2:=G.many_le m.s.pl.slots;have h3:=h.room;omega)
 new:=fun m h=>Snd.new_none h.ok
 ofl:=fun m k a h hk=>by have:=Snd.of_lt h.ok hk;omega
 clear:=fun m h=>⟨Snd.clear h.ok,h.fn,h.hs,h.room⟩
 coll:=fun m s k h hc=>by
  obtain ⟨m',k',h1,h2,h3,_⟩:=h.ok.collect;unfold G.Mg.collect at h1;rw [hc] at h1;cases h1;exact h.stay h2 h3
 swap:=fun m s l e h hc=>by
  by_cases hb:l<0\/l≥(m.s.vars.length:Int) - 1
  . rw [G.swap_bad hb] at hc
    cases hc;exact ⟨Snd.clear h.ok,h.fn,h.hs,h.room⟩
  . have hv:=h.ok.vars
    obtain ⟨k,rfl⟩:∃ k:Nat,l=(k:Int):=⟨l.toNat,by omega⟩;obtain ⟨s',e',h1,h2,h3,_⟩:=h.ok.swap (by rw [h.hs];exact hH) (k:=k) (by omega);rw [hc] at h1;cases h1;exact h.stay h2 h3
theorem InvS.step {α:Type} {K:Nat} {F:G.Mg->G.Step α} {R:G.Mg->α ⊕ Nat->Prop} (hF:∀ m,InvS S n c Φ H r m->G.Runs S H.length K m (F m) R):∀ m m' rs,InvS S n c Φ H r m->F m=some (m',rs)->InvS S n c Φ H r m'/\G.Ends K m m' R rs:=fun m m' rs h he=>by
 obtain ⟨m2,rs2,h1,h2,h3⟩:=hF m h;rw [he] at h1;cases h1;rw [<- h.hs] at h2;have hw:∀ e ∈ m'.waits,e ∈ m.waits:=fun e hm=>by
  cases rs with
  | ok a=>rw [h3.1] at hm;exact hm
  | stop st =>
    cases st with
    | event ev =>
      have h3:m.waits=ev::m'.waits:=h3;rw [h3];exact .tail _ hm
    | err er=>rw [h3.1] at hm;exact hm
 obtain ⟨h4,h5⟩:=h.ok.grew h2 hw;exact ⟨⟨h4,h5.trans h.fn,h2.hs.trans h.hs,h2.gro.room.trans h.room⟩,h3⟩
theorem InvS.doOk {K:Nat} {F:G.Mg->G.Step Nat} {R:G.Mg->Nat ⊕ Nat->Prop} (hF:∀ m,InvS S n c Φ H r m->G.Runs S H.length K m (F m) R) (hv:∀ m r,R m (.inl r)->G.val m.s.nd r) (h0:∀ m,¬ R m (.inr 0)):DoOk (InvS S n c Φ H r) F where
 step:=fun m m' rs h he=>(InvS.step hF m m' rs h he).1
 lt:=fun m m' f h he=>by
  obtain ⟨h1,h2⟩:=InvS.step hF m m' _ h he
  have:=h1.ok.ok.val_lt (hv _ _ h2.2);omega
 ne:=fun m m' h he=>by
  obtain ⟨h1,h2⟩:=InvS.step hF m m' _ h he;rcases h2.2 with ⟨h3,_⟩|⟨_,h3⟩
  . cases h3
  . exact h0 _ h3
end
end
namespace G
def foldE (F:Mg->Nat->Nat->Step Nat):List Int->Mg->Nat->Step Nat
 | [],m,r=>some (m,.ok r)
 | h::l,m,r=>(m.edge h).then fun m e=>(F m r e).then fun m r=>foldE F l m r
def andE (m:Mg) (a b:Nat):Step Nat:=m.ite fuel a b 1
def Mg.andM (m:Mg) (l:List Int):Option (Mg × Nat × Nat):=m.do_ fun m=>foldE andE l m 0
structure Rw3 where
 v:Int
 lo:Int
 hi:Int
 deriving DecidableEq
structure RS where
 rows:List Rw3
 at_:List (Nat × Nat)
def RS.get (q:RS) (i:Nat):Option Nat:=(q.at_.find? fun p=>p.1 == i).map (·.2)
def downR:Nat->St->RS->Nat->Option (RS × Nat)
 | 0,_,_,_=>none
 | k+1,s,q,f =>
   match q.get (f / 2) with
   | some n=>some (q,edge n (f % 2 == 1))
   | none =>
     let p:=flipIf f (f % 2 == 1)
     let v:=(s.topE [p]).1
     (downR k s q (s.splitI p v).1).bind fun (q,lo) =>
     (downR k s q (s.splitI p v).2).bind fun (q,hi) =>
     some (⟨q.rows ++ [⟨v,lo,hi⟩],q.at_ ++ [(f / 2,q.rows.length+1)]⟩,edge (q.rows.length+1) (f % 2 == 1))
def rowsE:List Int->Mg->RS->List Nat->Step (RS × List Nat)
 | [],m,q,r=>some (m,.ok (q,r))
 | h::l,m,q,r=>(m.edge h).then fun m e=>match downR fuel m.s q e with|none=>none|some (q,x)=>rowsE l m q (r ++ [x])
def rs0:RS:=⟨[],[(0,0)]⟩
def Mg.rowsM (m:Mg) (l:List Int):Option (Mg × ((RS × List Nat) ⊕ Nat)):=m.look fun m=>rowsE l m rs0 []
def loadE:List Rw3->Mg->List Nat->Step (List Nat)
 | [],m,ns=>some (m,.ok ns)
 | r::l,m,ns=>(m.mk_ r.v 1 0).then fun m v=>(m.ite fuel v (flipIf (ns.getD (r.hi.toNat / 2) 0) (r.hi.toNat % 2 == 1)) (flipIf (ns.getD (r.lo.toNat / 2) 0) (r.lo.toNat % 2 == 1))).then fun m k=>loadE l m (ns ++ [k])
def load1 (rows:List Rw3) (root:Nat) (m:Mg):Step Nat:=(loadE (rows.take (root / 2)) m [0]).then fun m ns=>some (m,.ok (flipIf (ns.getD (root / 2) 0) (root % 2 == 1)))
def lives26:Option (List Rw3 × List Nat × Bool) :=
 (Mg.new 2 400).var_ 0 |>.bind fun (m,x,e1) =>
 m.var_ 1 |>.bind fun (m,y,e2) =>
 m.andM [(x:Int),(y:Int)] |>.bind fun (m,f,e3) =>
 m.rowsM [(f:Int)] |>.bind fun (m,q) =>
 match q with
 | .inr _=>none
 | .inl (q,roots) =>
   m.do_ (load1 q.rows (roots.getD 0 0)) |>.bind fun (m,g,e4) =>
   some (q.rows,roots,(m.same f g).1 && (e1 == 0 && e2 == 0 && e3 == 0 && e4 == 0))
theorem lives26_is:lives26=some ([⟨1,1,0⟩,⟨0,1,2⟩],[4],true):=by decide +kernel
end G
namespace G
theorem RS.get_push (q:RS) (i n j:Nat) (r:Rw3):(⟨q.rows ++ [r],q.at_ ++ [(i,n)]⟩:RS).get j=match q.get j with|some x=>some x|none=>if i=j then some n else none:=by
 unfold RS.get;simp only [List.find?_append];cases hf:q.at_.find? (fun p=>p.1 == j) with
 | some p=>rfl
 | none =>
   simp only [Option.none_or,Option.map_none];by_cases e:i=j
   . subst e;simp
   . rw [jAb e,kG (by simpa using e)];rfl
theorem down_succ (k:Nat) (s:St) (q:RS) (f:Nat):downR (k+1) s q f=match q.get (f / 2) with
 | some n=>some (q,edge n (f % 2 == 1))
 | none=>(downR k s q (s.splitI (flipIf f (f % 2 == 1)) (s.topE [flipIf f (f % 2 == 1)]).1).1).bind fun (q,lo) =>
   (downR k s q (s.splitI (flipIf f (f % 2 == 1)) (s.topE [flipIf f (f % 2 == 1)]).1).2).bind fun (q,hi) =>
   some (⟨q.rows ++ [⟨(s.topE [flipIf f (f % 2 == 1)]).1,lo,hi⟩],q.at_ ++ [(f / 2,q.rows.length+1)]⟩,edge (q.rows.length+1) (f % 2 == 1)):=rfl
theorem topE_one {s:St} {p:Nat} {n:Nd} (hn:s.nd (p / 2)=some n):(s.topE [p]).1=(n.v:Int):=by
 have ha:s.at_ p=some (n.v,flipIf n.lo (p % 2 == 1),flipIf n.hi (p % 2 == 1)):=by unfold St.at_;rw [hn];rfl
 simp only [St.topE,List.foldl_cons,List.foldl_nil,ha];rw [jAa (.inl (by decide))]
theorem splitI_kid {s:St} {p:Nat} {n:Nd} (hn:s.nd (p / 2)=some n):(s.splitI p (s.topE [p]).1).1 / 2=n.lo / 2/\(s.splitI p (s.topE [p]).1).2 / 2=n.hi / 2:=by
 rw [topE_one hn];have ha:s.at_ p=some (n.v,flipIf n.lo (p % 2 == 1),flipIf n.hi (p % 2 == 1)):=by unfold St.at_;rw [hn];rfl
 simp only [St.splitI,ha,jC];exact ⟨Ka _ _,Ka _ _⟩
theorem topE_none {s:St} {p:Nat} (hn:s.nd (p / 2)=none):s.splitI p (s.topE [p]).1=(p,p):=by
 have ha:s.at_ p=none:=by unfold St.at_;rw [hn];rfl
 simp only [St.splitI,ha]
theorem down_stuck {s:St} {p:Nat} (hn:s.nd (p / 2)=none) (hp:p % 2=0):∀ (k:Nat) (q:RS),q.get (p / 2)=none->downR k s q p=none
 | 0,q,_=>rfl
 | k+1,q,h=>by
   have hf:flipIf p (p % 2 == 1)=p:=by unfold flipIf;rw [hp];rfl
   rw [down_succ,h];simp only [hf,topE_none hn];rw [down_stuck hn hp k q h];rfl
theorem flipIf_self_even (f:Nat):flipIf f (f % 2 == 1) % 2=0:=by
 unfold flipIf flip;rcases jRa f with h|h <;> simp [h] <;> omega
theorem down_keys {s:St} {rk:Nat->Nat} (hac:Acyc s.nd rk):∀ (k:Nat) (q q':RS) (f e:Nat),(q.get 0).isSome=true->downR k s q f=some (q',e) ->
  (∀ i,(q'.get i).isSome=true->(q.get i).isSome=true\/rk i<=rk (f / 2))/\(∀ i n,q.get i=some n->q'.get i=some n)/\q.rows.length<=q'.rows.length/\(∀ i n,q'.get i=some n->q.get i=some n\/n<=q'.rows.length)
 | 0,q,q',f,e,_,h=>by cases h
 | k+1,q,q',f,e,h0,h=>by
   rw [down_succ] at h;cases hg:q.get (f / 2) with
   | some n =>
     rw [hg] at h;cases h;exact ⟨fun i h=>.inl h,fun i n h=>h,jBb _,fun i n h=>.inl h⟩
   | none =>
     rw [hg] at h;simp only at h;generalize hp:flipIf f (f % 2 == 1)=p at *
     have hpf:p / 2=f / 2:=by rw [<- hp];exact Ka _ _
     have hpe:p % 2=0:=by rw [<- hp];exact flipIf_self_even f
     cases hn:s.nd (p / 2) with
     | none =>
       simp only [topE_none hn] at h;rw [down_stuck hn hpe k q (by rw [hpf];exact hg)] at h;cases h
     | some n =>
       obtain ⟨k1,k2⟩:=splitI_kid hn;generalize (s.splitI p (s.topE [p]).1).1=lo at *
       generalize (s.splitI p (s.topE [p]).1).2=hi at *
       have hf0:f / 2≠0:=fun e0=>by rw [e0] at hg;rw [hg] at h0;cases h0
       have rl:∀ i,rk i<=rk (lo / 2)->lo / 2≠0->rk i<=rk (f / 2):=fun i hi' hne=>by
        have:=(hac.lo _ _ hn).2 (by rw [<- k1];exact hne);rw [<- k1,hpf] at this;omega
       have rh:∀ i,rk i<=rk (hi / 2)->hi / 2≠0->rk i<=rk (f / 2):=fun i hi' hne=>by
        have:=(hac.hi _ _ hn).2 (by rw [<- k2];exact hne);rw [<- k2,hpf] at this;omega
       cases hd1:downR k s q lo with
       | none=>rw [hd1] at h;cases h
       | some x =>
         obtain ⟨q1,e1⟩:=x;rw [hd1] at h;simp only [Option.bind_some] at h;obtain ⟨a1,a2,a3,a4⟩:=down_keys hac k q q1 lo e1 h0 hd1;have h01:(q1.get 0).isSome=true:=by
          obtain ⟨z,hz⟩:=yF.1 h0;rw [a2 _ _ hz];rfl
         cases hd2:downR k s q1 hi with
         | none=>rw [hd2] at h;cases h
         | some x =>
           obtain ⟨q2,e2⟩:=x;rw [hd2] at h;simp only [Option.bind_some] at h;obtain ⟨b1,b2,b3,b4⟩:=down_keys hac k q1 q2 hi e2 h01 hd2;cases h;have zk:∀ (k:Nat) (q q':RS) (g e:Nat),(q.get 0).isSome=true->g / 2=0->downR k s q g=some (q',e)->q'=q:=fun k q q' g e hz hg0 hd=>by
            cases k with
            | zero=>cases hd
            | succ k =>
              rw [down_succ] at hd;obtain ⟨z,hz⟩:=yF.1 hz;rw [hg0,hz] at hd;cases hd;rfl
           refine ⟨fun i hi'=>?_,fun i x hx=>?_,by simp only [yG,yB,yC];omega,fun i x hx=>?_⟩
           . rw [RS.get_push] at hi'
             cases hq2:q2.get i with
             | some y =>
               rcases b1 i (by rw [hq2];rfl) with h1|h1
               . rcases a1 i h1 with h2|h2
                 . exact .inl h2
                 . by_cases hz:lo / 2=0
                   . rw [zk k q q1 lo e1 h0 hz hd1] at h1;exact .inl h1
                   . exact .inr (rl i h2 hz)
               . by_cases hz:hi / 2=0
                 . have:=zk k q1 q2 hi e2 h01 hz hd2
                   subst this;rcases a1 i (by rw [hq2];rfl) with h2|h2
                   . exact .inl h2
                   . by_cases hz:lo / 2=0
                     . have:=zk k q q2 lo e1 h0 hz hd1
                       subst this;exact .inl (by rw [hq2];rfl)
                     . exact .inr (rl i h2 hz)
                 . exact .inr (rh i h1 hz)
             | none =>
               rw [hq2] at hi';simp only at hi';split at hi'
               . rename_i e0;exact .inr (by rw [e0];exact jBb _)
               . cases hi'
           . rw [RS.get_push,b2 _ _ (a2 _ _ hx)]
           . rw [RS.get_push] at hx
             simp only [yG,yB,yC];cases hq2:q2.get i with
             | some y =>
               rw [hq2] at hx;cases hx;rcases b4 i _ hq2 with h1|h1
               . rcases a4 i _ h1 with h2|h2
                 . exact .inl h2
                 . exact .inr (by omega)
               . exact .inr (by omega)
             | none =>
               rw [hq2] at hx;simp only at hx;split at hx
               . cases hx;exact .inr (by omega)
               . cases hx
theorem down_fresh {s:St} {rk:Nat->Nat} (hac:Acyc s.nd rk) {k:Nat} {q q1 q2:RS} {f e1 e2:Nat} (h0:(q.get 0).isSome=true) (hg:q.get (f / 2)=none)
  (hd1:downR k s q (s.splitI (flipIf f (f % 2 == 1)) (s.topE [flipIf f (f % 2 == 1)]).1).1=some (q1,e1)) (hd2:downR k s q1 (s.splitI (flipIf f (f % 2 == 1)) (s.topE [flipIf f (f % 2 == 1)]).1).2=some (q2,e2)):q2.get (f / 2)=none:=by
 generalize hp:flipIf f (f % 2 == 1)=p at *
 have hpf:p / 2=f / 2:=by rw [<- hp];exact Ka _ _
 have hpe:p % 2=0:=by rw [<- hp];exact flipIf_self_even f
 cases hn:s.nd (p / 2) with
 | none =>
   simp only [topE_none hn] at hd1;rw [down_stuck hn hpe k q (by rw [hpf];exact hg)] at hd1;cases hd1
 | some n =>
   obtain ⟨k1,k2⟩:=splitI_kid hn;generalize (s.splitI p (s.topE [p]).1).1=lo at *
   generalize (s.splitI p (s.topE [p]).1).2=hi at *
   obtain ⟨a1,a2,_,_⟩:=down_keys hac k q q1 lo e1 h0 hd1;have h01:(q1.get 0).isSome=true:=by
    obtain ⟨z,hz⟩:=yF.1 h0;rw [a2 _ _ hz];rfl
   obtain ⟨b1,_,_,_⟩:=down_keys hac k q1 q2 hi e2 h01 hd2;have zk:∀ (q q':RS) (g e:Nat),(q.get 0).isSome=true->g / 2=0->downR k s q g=some (q',e)->q'=q:=fun q q' g e hz hg0 hd=>by
    cases k with
    | zero=>cases hd
    | succ k =>
      rw [down_succ] at hd;obtain ⟨z,hz⟩:=yF.1 hz;rw [hg0,hz] at hd;cases hd;rfl
   cases hq2:q2.get (f / 2) with
   | none=>rfl
   | some y =>
     exfalso
     have c1:(q1.get (f / 2)).isSome=true->False:=fun h1=>by
      rcases a1 _ h1 with h2|h2
      . rw [hg] at h2;cases h2
      . by_cases hz:lo / 2=0
        . rw [zk q q1 lo e1 h0 hz hd1,hg] at h1;cases h1
        . have:=(hac.lo _ _ hn).2 (by rw [<- k1];exact hz)
          rw [<- k1,hpf] at this;omega
     rcases b1 (f / 2) (by rw [hq2];rfl) with h1|h1
     . exact c1 h1
     . by_cases hz:hi / 2=0
       . have:=zk q1 q2 hi e2 h01 hz hd2
         subst this;exact c1 (by rw [hq2];rfl)
       . have:=(hac.hi _ _ hn).2 (by rw [<- k2];exact hz)
         rw [<- k2,hpf] at this;omega
end G
section
open Go.RowKit
theorem Zc:Ze Tryz.prog 63=some true:=by kernel_rfl
theorem Xa:Km Tryz.prog 63=some 3:=by kernel_rfl
def rowC (r:G.Rw3):List Value:=[.int .i64 r.v,.int .i64 r.lo,.int .i64 r.hi]
theorem rowC_len (r:G.Rw3):(rowC r).length=3:=rfl
theorem row3_info:(Tryz.prog.info? 63).map (fun i=>(i.zero,i.size,i.bytes))=some (some (.agg #[.int .i64 0,.int .i64 0,.int .i64 0]),3,24):=by kernel_rfl
def MtR (l:List (Rw Int)) (q:List (Nat × Nat)):Prop:=l.map (fun r=>(r.k,r.v))=q.map (fun p=>(((p.1:Nat):Int),nv p.2))
theorem MtR.get {l:List (Rw Int)} {q:List (Nat × Nat)} (h:MtR l q) (x:Nat):getR l (x:Int)=((q.find? fun p=>p.1 == x).map (·.2)).map nv:=by
 unfold MtR at h
 induction l generalizing q with
 | nil =>
   cases q with
   | nil=>rfl
   | cons p q=>cases h
 | cons r l ih =>
   cases q with
   | nil=>cases h
   | cons p q =>
     simp only [jD,kHb,jQa] at h;obtain ⟨⟨h1,h2⟩,h3⟩:=h;have ih:=ih h3;unfold getR at ih ⊢;by_cases e:p.1=x
     . rw [kUb (by simp [h1,e]),kUb (by simpa using e)];simp [h2]
     . rw [kG (by simp [h1];omega),kG (by simpa using e)];exact ih
theorem MtR.push {l:List (Rw Int)} {q:List (Nat × Nat)} (h:MtR l q) (i n c:Nat):MtR (l ++ [⟨(i:Int),nv n,c⟩]) (q ++ [(i,n)]):=by
 unfold MtR at h ⊢;rw [jH,jH,h];rfl
def DwP (H X1:Nat) (q:G.RS) (ms ns:List PH):Prop:=∃ l clock vR mR,MapOk l clock/\MtR l q.at_/\OwnP mR 63 3 vR q.rows.length (q.rows.flatMap rowC)/\ns=PH.one H (Qk ikey l clock)::PH.one X1 (.cells #[vR] 23)::mR::ms
theorem atLookupB {P:Program} {a:Act} {w:World} {K:Act->World->Prop} {Q:Exit->Act->World->Prop} {dst:Option Tmp} {type:TypeId} {pos:String} {after:Array Edge} {g:Option (Nat × Bool)} {T:TypeId} {m y:Operand} {c:Bool} (h:Oper.wp P ⟨dst,.lookup T m y c,type,pos,after,g⟩ a w K Q):Oper.wp P ⟨dst,.lookup T m y c,type,pos,after,g⟩ a w K Q:=h
theorem NumR.one {I:PH} {X:Nat} {x:Nat} (h:(PH.one X (.cells #[nv x] 96)).le I):NumR I (.slice (some ⟨X,0,none⟩) 1 1) [x] :=
 (OwnP.num (l:=[x]) (OwnP.lit X 96 1 1 #[nv x] (by decide) rfl)).le h
structure DwI (I:PH) (D X H X1 X4 X5 X6:Nat) (m:G.Mg):Prop where
 i5:I.at X5 0=some (.map (some H))
 i4:I.at X4 0=some (vPt X)
 iX:I.at X 0=some (vPt D)
 i6:I.at X6 0=some (.func (.func 42) #[] #[vPt X5,vPt X4,vPt X6,vPt X1])
 hM:MgR I D m
theorem DwI.le {I J:PH} {D X H X1 X4 X5 X6:Nat} {m:G.Mg} (h:DwI I D X H X1 X4 X5 X6 m) (hJ:I.le J):DwI J D X H X1 X4 X5 X6 m:=⟨PH.at_le hJ h.i5,PH.at_le hJ h.i4,PH.at_le hJ h.iX,PH.at_le hJ h.i6,h.hM.le hJ⟩
def DownC (D X H X1 X4 X5 X6:Nat) (m:G.Mg) (k:Nat):Prop:=∀ (I:PH) (q q':G.RS) (f e:Nat),DwI I D X H X1 X4 X5 X6 m->G.downR k m.s q f=some (q',e)->(q.get 0).isSome=true->(∀ i n,q.get i=some n->n<4194303)->q'.rows.length<4000000->f<4611686018427387904 ->
 ∀ (E:World) (ms ns:List PH) (w:World),DwP H X1 q ms ns->Sat E I ns w ->
   Calls Tryz.prog 42 #[nv f,vPt X5,vPt X4,vPt X6,vPt X1] w fun e' w'=>e'=.returned (nv e)/\∃ ns',DwP H X1 q' ms ns'/\Sat E I ns' w'
theorem ddown_step {D X H X1 X4 X5 X6:Nat} {m:G.Mg} {rk:Nat->Nat} (hac:G.Acyc m.s.nd rk) (k:Nat) (ih:DownC D X H X1 X4 X5 X6 m k):DownC D X H X1 X4 X5 X6 m (k+1):=by
 intro I q q' f e hI hd h0 hb hlen hf E ms ns w hP hS;obtain ⟨l,clock,vR,mR,hok,hmt,hO,rfl⟩:=hP;rw [G.down_succ] at hd;have HIj:=yH (fun (J:PH) (h:I.le J)=>hI.le h);obtain ⟨i5,i4,iX,i6,hM⟩:=hI;have hq:=hmt.get (f / 2);have hg:q.get (f / 2)=(q.at_.find? fun p=>p.1 == f / 2).map (·.2):=rfl;rw [<- hg] at hq;have HNd:=yH (fun w:World=>Xr (w:=w) f (by omega));have HNg:=yH (fun w:World=>eneg_any (w:=w) f);clear hg;cases hgq:q.get (f / 2) with
 | some n =>
   rw [hgq] at hd hq;have hn:=hb _ _ hgq;cases hd;have HQ:=yH hq;have HOf:=yH (fun w:World=>eof_any (w:=w) n (f % 2 == 1) (by omega));have HPk:=yH (And.intro hok (And.intro hmt hO));clear hq hgq hok hmt hO hb ih hac hM;go_enter Tryz.func42,Tryz.ntmps42;go_wp2_with fail
   refine Kt (fun _ _=>False) [[],[],[1],[0,1,2],[0,1,2,3],[0,1,2,3,4],[0,1,2,3,4],[0,1,2,3,4,5],[0,1,2,3,4,5,6,7]] E I _
    [fun v _=>v=.map (some H),fun v _=>v=nv f,fun v _=>v=nv (f / 2),fun v _=>v=.tuple #[nv n,.bool true],fun v _=>v=.tuple #[nv n,.bool true],fun v _=>v=nv n,fun v _=>v=.bool true,fun v _=>v=nv n,fun v _=>v=.bool true] []
    (fun _ _ _ ns=>ns=PH.one H (Qk ikey l clock)::PH.one X1 (.cells #[vR] 23)::mR::ms) (by kernel_rfl) (by kernel_rfl) (by decide) hS rfl ?last (fun _ _ _ _ _ _ h=>h) (fun _ _ _ _ _ _ h=>h) ?plain ?step ?hZ ?fin
   case last=>exact bL
   case plain=>(repeat' (first|exact trivial|apply And.intro)) <;>  (refine .inr ?_;intro s vals J bs w hstop hg hJ hS hG;( (have h0:s<=0:=hstop;obtain rfl:s=0:=kUa.1 h0;have hG:bs=_:=hG;subst hG) );refine bZ ?_;intro K HK;(first|(refine bJ ?_)|((with_reducible refine atLookupB ?_);(refine wp_lk (x:=((f / 2:Nat):Int)) (hS.mle (k:=0) rfl) (PH.one_self _ _) kI Tryz.underlying94 ty_z3 rfl rfl rfl ?_;simp only [jC];rw [HQ.out];simp only [Option.map_some,zJ,Option.isSome_some]))|(go_wp2_with (first|(go_at_call 43;with_reducible refine bC (HNd.out _) ?_))));exact bO)
   case step=>trivial
   case hZ=>exact fun _ _ _ _ h=>h.elim
   case fin =>
    intro vals J9 bs w hJ hg hS hG;have hG:bs=_:=hG;subst hG;have hS:=hS.less hJ;clear hJ;simp only [yB,yC,Nat.reduceAdd,Below_,Facts,zH,zI,jGb] at hg;simp only [yB,yC,Nat.reduceAdd,Qb,Qe,Qd,zA,zB,zK,jC,Act.put,zE,zF,zG,hg];refine ⟨?_⟩;clear hg;go_wp2_with (first|(go_at_call 45;with_reducible refine bC (HNg.out _) ?_)|(go_at_call 48;with_reducible refine bC (HOf.out _) ?_))
    go_ret;exact ⟨rfl,_,⟨l,clock,vR,mR,HPk.out.1,HPk.out.2.1,HPk.out.2.2,rfl⟩,hS⟩
 | none =>
   rw [hgq] at hd hq;simp only at hd;have HQ:=yH hq;have HFl:=yH (fun w:World=>Zw (w:=w) f (f % 2 == 1) hf);have hp:=Kk hf (f % 2 == 1);have hfresh:=fun q1 q2 e1 e2=>G.down_fresh (k:=k) (q1:=q1) (q2:=q2) (e1:=e1) (e2:=e2) hac h0 hgq
   have hkeys:=fun (q q':G.RS) (f e:Nat)=>G.down_keys hac k q q' f e
   have hfit:PlFit m.s.pl:=by obtain ⟨_,S,M,H,wv,_,_,_,_,_,_,h7,_⟩:=hM;obtain ⟨_,_,P,_,_,_,_,_,_,_,_,_,_,_,_,_,_,hP,_⟩:=h7;exact hP.1
   generalize hpp:G.flipIf f (f % 2 == 1)=p at *
   have HTop:=yH (fun (w':World) (hX':(Qa w').at X 0=some (vPt D)) (hR:MgR (Qa w') D m) (vl:Value) (hl:NumR (Qa w') vl [p])=>xtop_any hX' hR [p] vl hl (fun x hx=>by simp only [jBa,jCb,jKb] at hx;subst hx;exact hp) (by simp));generalize (m.s.topE [p]).1=tv at *
   have HSp:=yH (fun (w':World) (hX':(Qa w').at X 0=some (vPt D)) (hR:MgR (Qa w') D m)=>xsplit_any hX' hR p tv hp);obtain ⟨bl,bh⟩:=splitI_lt hfit hp tv;generalize (m.s.splitI p tv).1=lo at *
   generalize (m.s.splitI p tv).2=hi at *
   cases hd1:G.downR k m.s q lo with
   | none=>rw [hd1] at hd;cases hd
   | some x1 =>
     obtain ⟨q1,e1⟩:=x1;rw [hd1] at hd;simp only [zK] at hd;cases hd2:G.downR k m.s q1 hi with
     | none=>rw [hd2] at hd;cases hd
     | some x2 =>
       obtain ⟨q2,e2⟩:=x2;rw [hd2] at hd;simp only [zK,jEb,jQa] at hd;obtain ⟨rfl,rfl⟩:=hd;simp only [yG,yB,yC] at hlen;obtain ⟨_,a2,a3,a4⟩:=hkeys _ _ _ _ h0 hd1;have h01:(q1.get 0).isSome=true:=by
        obtain ⟨z,hz⟩:=yF.1 h0;rw [a2 _ _ hz];rfl
       obtain ⟨_,b2,b3,b4⟩:=hkeys _ _ _ _ h01 hd2;have hb1:∀ i n,q1.get i=some n->n<4194303:=fun i n hin=>by
        rcases a4 i n hin with h|h
        . exact hb i n h
        . omega
       have hnone:q2.get (f / 2)=none:=hfresh _ _ _ _ hd1 hd2;have H1:=yH (fun (J:PH) (E:World) (ns:List PH) (w:World) (hJ:I.le J) (hP:DwP H X1 q ms ns) (h:Sat E J ns w)=>ih J q q1 lo e1 (HIj.out J hJ) hd1 h0 hb (by omega) bl E ms ns w hP h);have H2:=yH (fun (J:PH) (E:World) (ns:List PH) (w:World) (hJ:I.le J) (hP:DwP H X1 q1 ms ns) (h:Sat E J ns w)=>ih J q1 q2 hi e2 (HIj.out J hJ) hd2 h01 hb1 (by omega) bh E ms ns w hP h);have HPk:=yH (And.intro hok (And.intro hmt hO));have HNn:=yH hnone;have hl2:q2.rows.length<4000000:=by omega
       have HOf:Hid (∀ w:World,Calls Tryz.prog 48 #[.int .i64 ((q2.rows.length:Int)+1),.bool (f % 2 == 1)] w fun e w'=>e=.returned (nv (G.edge (q2.rows.length+1) (f % 2 == 1)))/\w=w'):=yH fun w=>eof_any (w:=w) (q2.rows.length+1) (f % 2 == 1) (by omega)
       clear hq hgq hok hmt hO hb ih hac hfresh hkeys hfit a2 a3 a4 b2 b3 b4 h0 h01 hb1 hnone hd1 hd2 hpp bl bh hlen;go_enter Tryz.func42,Tryz.ntmps42;go_wp2_with fail
       refine Kt (fun _ _=>False) [[],[],[1],[0,1,2],[0,1,2,3],[0,1,2,3,4],[0,1,2,3,4],[0,1,2,3,4,5],[0,1,2,3,4,5,6,7]] E I _
        [fun v _=>v=.map (some H),fun v _=>v=nv f,fun v _=>v=nv (f / 2),fun v _=>v=.tuple #[.int .i64 0,.bool false],fun v _=>v=.tuple #[.int .i64 0,.bool false],fun v _=>v=.int .i64 0,fun v _=>v=.bool false,fun v _=>v=.int .i64 0,fun v _=>v=.bool false] []
        (fun _ _ _ ns=>ns=PH.one H (Qk ikey l clock)::PH.one X1 (.cells #[vR] 23)::mR::ms) (by kernel_rfl) (by kernel_rfl) (by decide) hS rfl ?last (fun _ _ _ _ _ _ h=>h) (fun _ _ _ _ _ _ h=>h) ?plain ?step ?hZ ?fin
       case last=>exact bL
       case plain=>(repeat' (first|exact trivial|apply And.intro)) <;>  (refine .inr ?_;intro s vals J bs w hstop hg hJ hS hG;( (have h0:s<=0:=hstop;obtain rfl:s=0:=kUa.1 h0;have hG:bs=_:=hG;subst hG) );refine bZ ?_;intro K HK;(first|(refine bJ ?_)|((with_reducible refine atLookupB ?_);(refine wp_lk (x:=((f / 2:Nat):Int)) (hS.mle (k:=0) rfl) (PH.one_self _ _) kI Tryz.underlying94 ty_z3 rfl rfl rfl ?_;simp only [jC];rw [HQ.out];simp only [Option.map_none,Option.getD_none,Option.isSome_none]))|(go_wp2_with (first|(go_at_call 43;with_reducible refine bC (HNd.out _) ?_))));exact bO)
       case step=>trivial
       case hZ=>exact fun _ _ _ _ h=>h.elim
       case fin =>
        intro vals J9 bs w hJ hg hS hG;have hG:bs=_:=hG;subst hG;have hS:=hS.less hJ;clear hJ;simp only [yB,yC,Nat.reduceAdd,Below_,Facts,zH,zI,jGb] at hg;simp only [yB,yC,Nat.reduceAdd,Qb,Qe,Qd,zA,zB,zK,jC,Act.put,zE,zF,zG,hg];refine ⟨?_⟩;clear hg HQ;go_wp2_with (first|(go_at_call 45;with_reducible refine bC (HNg.out _) ?_)|(go_at_call 44;with_reducible refine bC (HFl.out _) ?_)|(go_at_call 46;(with_reducible refine yI (HTop.out _ (PH.at_le hS.ile iX) (hM.le hS.ile) _ (NumR.one (hS.mle (k:=0) rfl))) ?_);rintro e w9 ⟨rfl,hb⟩;replace hS:=(hS.below_ hb).drop;clear hb)|(go_at_call 47;(with_reducible refine bB hS (HSp.out _ (PH.at_le hS.ile iX) (hM.le hS.ile)) ?_);clear hS;intro w9 hS)|(refine aL ?_)|(refine aY ?_;clear hS;intro XS w hS))
        refine Kt (fun _ _=>False) [[],[],[0,1],[],[],[0,1,2,3,4],[0,1,2,3,4,5],[0,1,2,3,4,5,6]] E I _
         [fun v _=>v=.func (.func 42) #[] #[vPt X5,vPt X4,vPt X6,vPt X1],fun v _=>v=nv lo,fun v _=>v=nv e1,fun v _=>v=.func (.func 42) #[] #[vPt X5,vPt X4,vPt X6,vPt X1],fun v _=>v=nv hi,fun v _=>v=nv e2,fun v _=>v=nv e1,fun v _=>v=nv e2] [2,5]
         (fun s _ _ ns=>DwP H X1 (if s=0 then q else if s=1 then q1 else q2) ms ns) (by kernel_rfl) (by kernel_rfl) (by decide) hS ⟨l,clock,vR,mR,HPk.out.1,HPk.out.2.1,HPk.out.2.2,rfl⟩ ?last (fun _ _ _ _ _ _ h=>h) (fun _ _ _ _ _ _ h=>h) ?plain ?step ?hZ ?fin
        case last=>exact bL
        case plain=>(repeat' (first|exact trivial|apply And.intro)) <;> first|exact .inl rfl|(refine .inr ?_;intro s vals J bs w hstop hg hJ hS hG;clear hG;refine bZ ?_;intro K HK;(first|(refine bJ ?_)|(go_wp2_with (fail)));exact bO)
        case step =>
         refine ⟨⟨trivial,?_⟩,?_⟩
         . intro vals J bs w hg hJ hS hG
           have HG:=yH (show DwP H X1 q ms bs from hG);clear hG;refine bZ ?_;intro K HK;go_wp2_with (first|(go_at_call 42;(with_reducible refine yI (H1.out _ _ _ _ hJ HG.out hS) ?_);clear hS;rintro e w ⟨rfl,ns1,hP1,hS⟩;have HP1:=yH hP1;clear hP1))
           exact HK.out _ _ ⟨rfl,J,_,PH.le.refl _,hS,rfl,HP1.out⟩
         . intro vals J bs w hg hJ hS hG
           have HG:=yH (show DwP H X1 q1 ms bs from hG);clear hG;refine bZ ?_;intro K HK;go_wp2_with (first|(go_at_call 42;(with_reducible refine yI (H2.out _ _ _ _ hJ HG.out hS) ?_);clear hS;rintro e w ⟨rfl,ns1,hP1,hS⟩;have HP1:=yH hP1;clear hP1))
           exact HK.out _ _ ⟨rfl,J,_,PH.le.refl _,hS,rfl,HP1.out⟩
        case hZ=>exact fun _ _ _ _ h=>h.elim
        case fin =>
         intro vals J9 bs w hJ hg hS hG;have hG:DwP H X1 q2 ms bs:=hG;have hS:=hS.less hJ;obtain ⟨l2,clock2,vR2,mR2,hok2,hmt2,hO2,rfl⟩:=hG;have hq2:=hmt2.get (f / 2);have hg2:q2.get (f / 2)=(q2.at_.find? fun p=>p.1 == f / 2).map (·.2):=rfl;rw [<- hg2,HNn.out] at hq2;have HQ2:=yH hq2;have HOk2:=yH hok2;have HMt2:=yH hmt2;have HO2:=yH hO2;clear hJ hq2 hg2 hok2 hmt2 hO2 H1 H2 HPk;simp only [yB,yC,Nat.reduceAdd,Below_,Facts,zH,zI,jGb] at hg;simp only [yB,yC,Nat.reduceAdd,Qb,Qe,Qd,zA,zB,zK,jC,Act.put,zE,zF,zG,hg];refine ⟨?_⟩;clear hg;go_wp2_with (first|((with_reducible refine isAppend ?_);(refine' apP (p:=_) (m:=_) (v:=_) (n:=_) (xs:=_) (news:=_) 3 (.inr (List.Mem.head _)) hS rfl rfl rfl Tryz.underlying23 row3_info rfl (by decide) rfl HO2.out rfl ?hl ?hcl ?h1 ?h63 ?hby ?_);(case hcl=>exact Cells.one _ _ _ _);(case hl=>rfl);(case h1=>rfl);(case h63=>(unfold maxLen;omega));(case hby=>omega);clear hS;intro v1 m4 w hO4 hS;refine Veil.out ?_;obtain ⟨A4,c4,rfl,_⟩:=OwnP.shape hO4;refine ⟨?_⟩;have HO4:=yH hO4;clear hO4;(try simp only [zF,zG] at hS);(try simp only [Act.put,zE,zF,zG]))|(refine aL ?_)|(refine aS ?_;clear hS;intro w hS)|(refine aY ?_;clear hS;intro XS w hS))
         replace hS:=hS.drop;refine Kt (fun _ _=>False) [[],[],[1],[],[0,1,2,3]] E I _
          [fun v _=>v=.map (some H),fun v _=>v=nv f,fun v _=>v=nv (f / 2),fun v _=>v=.int .i64 ((q2.rows.length:Int)+1),fun _ _=>True] [4]
          (set1G _ 0 (fun m'=>m'=PH.one H (Qk ikey (l2 ++ [⟨((f / 2:Nat):Int),.int .i64 ((q2.rows.length:Int)+1),clock2⟩]) (clock2+1)))) (by kernel_rfl) (by kernel_rfl) (by decide) hS rfl ?last (fun _ _ _ _ _ _ h=>h) (fun _ _ _ _ _ _ h=>h) ?plain ?step ?hZ ?fin
         case last=>exact bL
         case plain=>(repeat' (first|exact trivial|apply And.intro)) <;> first|exact .inl rfl|(refine .inr ?_;intro s vals J bs w hstop hg hJ hS hG;clear hG;refine bZ ?_;intro K HK;(first|(refine bJ ?_)|(go_wp2_with (first|(go_at_call 43;with_reducible refine bC (HNd.out _) ?_))));exact bO)
         case step =>
          refine ⟨trivial,?_⟩;intro vals J bs w hg hJ hS hG;have hG:bs=_:=hG;subst hG;refine bZ ?_;intro K HK;refine wp_mu (x:=((f / 2:Nat):Int)) hS 0 rfl kI Tryz.underlying94 rfl rfl rfl rfl HOk2.out fun w' hS'=>?_
          rw [HQ2.out] at hS';simp only [Option.map_none,Option.isSome_none,jE,jS] at hS';exact HK.out _ _ ⟨rfl,J,_,PH.le.refl _,hS',trivial,_,rfl,rfl⟩
         case hZ=>exact fun _ _ _ _ h=>h.elim
         case fin =>
          intro vals J9 bs w hJ hg hS hG;obtain ⟨mH,rfl,hns⟩:=hG;subst hns;have hS:=hS.less hJ;simp only [zG] at hS;clear hJ;simp only [yB,yC,Nat.reduceAdd,Below_,Facts,zH,zI,jGb,jMb] at hg;simp only [yB,yC,Nat.reduceAdd,Qb,Qe,Qd,zA,zB,zK,jC,Act.put,zE,zF,zG,hg];refine ⟨?_⟩;clear hg;go_wp2_with (first|(go_at_call 45;with_reducible refine bC (HNg.out _) ?_)|(go_at_call 48;with_reducible refine bC (HOf.out _) ?_))
          go_ret;refine ⟨rfl,_,⟨_,_,_,m4,HOk2.out.push HQ2.out _,HMt2.out.push _ _ _,?_,rfl⟩,hS⟩;simp only [yG,yB,yC,jLb,jO,List.flatMap_nil,jYa];exact HO4.out
theorem ddown_any {D X H X1 X4 X5 X6:Nat} {m:G.Mg} {rk:Nat->Nat} (hac:G.Acyc m.s.nd rk):∀ k,DownC D X H X1 X4 X5 X6 m k
 | 0=>fun I q q' f e _ h=>by cases h
 | k+1=>ddown_step hac k (ddown_any hac k)
end
end Go.Proofs.YtidamcdklgfogaaGreatDoor
