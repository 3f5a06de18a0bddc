import Derived.Test.YtidamcdklgfogaaGreatUba
set_option linter.unusedVariables false
set_option linter.unusedSimpArgs false
set_option maxRecDepth 100000
set_option maxHeartbeats 2000000
namespace Go.Proofs.YtidamcdklgfogaaGreat
namespace G
variable{S:Sem} {n H R:Nat}
structure FoldSt (S:Sem) (n H R:Nat) (op:Int) (ks:List Ex) (m:Mg) (h:Nat) (m':Mg) (r:Nat):Prop where
 run:foldM op ks m h=some (m',r,true)
 ok:Sd S n m
 fn:∃φ,m.fn (h:Int)=some φ
 one:1<h
 fit:Fit n H m (Ex.szs ks+3) (3*Ex.szs ks)
 oks:∀k∈ks,ExOk n k
 room:m.s.pl.room=R
structure JoinOk (S:Sem) (n H R:Nat) (m:Mg) (a b:Int):Prop where
 ok:Sd S n m
 fit:Fit n H m 2 2
 room:m.s.pl.room=R
 fa:∃φ,m.fn a=some φ
 fb:∃φ,m.fn b=some φ
 a1:1<a
 b1:1<b
 ne:a≠b
theorem FoldSt.step(hS1:∀φ ψ χ,S 1 φ ψ χ=iteF φ ψ χ){op:Int}(hop:op=5\/op=6\/op=7){e:Ex}{ks:List Ex}{m m':Mg}{h r:Nat}(q:FoldSt S n H R op (e::ks) m h m' r) :
  Fit n H m (e.sz+3) (3*e.sz)/\∃m1 g m2 h2,buildM e m=some (m1,g,true)/\JoinOk S n H R m1 (h:Int) (g:Int)/\joinM m1 op (h:Int) (g:Int)=some (m2,h2,true)/\FoldSt S n H R op ks m2 h2 m' r:=by
 obtain⟨hm,hs,⟨φ,hh⟩,h1,f,hks,hR⟩:=q;rw[Ex.szs] at f;rw[foldM] at hm;have hsz:0<e.sz:=by cases e;rw[Ex.sz];omega
 have fe:Fit n H m (e.sz+3) (3*e.sz):=f.step (by omega) rfl ⟨[],rfl⟩ (by omega);obtain⟨m1,g,r1,g1⟩:=buildM_ok hS1 e m (hks e (.head _)) hs fe;simp only[r1] at hm;have hlt:=(fn_lt hs hh).2;have hge:=g1.ge;have hc1:=g1.cost;have hl1:=g1.lt;have hn0:=hs.next.1;have fj:Fit n H m1 2 2:=f.step (m':=m1) (k':=2) (q':=2) (by rw[g1.len];omega) g1.room g1.waits (by omega);obtain⟨m2,h2,r2,g2⟩:=joinM_ok hS1 g1.ok fj (g1.fn_old hs hh) (by rw[g1.fn,jAb rfl]) (by omega) (by omega) (by omega) (by omega:op=5\/op=6\/op=7\/op=8\/op=9);simp only[r2] at hm;have hge2:=g2.ge;have hc2:=g2.cost;have hl2:=g2.lt;have hlen2:=g2.len;have hlen1:=g1.len;simp only[yB,yC] at hlen2;have hw:∃w,m.waits=w++m2.waits:=by
  obtain⟨w1,e1⟩:=g1.waits;obtain⟨w2,e2⟩:=g2.waits;exact⟨w1++w2,by rw[e1,e2,jE]⟩
 exact⟨fe,m1,g,m2,h2,r1,⟨g1.ok,fj,g1.room.trans hR,⟨_,g1.fn_old hs hh⟩,⟨_,by rw[g1.fn,jAb rfl]⟩,by omega,by omega,by omega⟩,r2,
  ⟨hm,g2.ok,⟨_,by rw[g2.fn,jAb rfl]⟩,by omega,f.step (by omega) (g2.room.trans g1.room) hw (by omega),λk hk=>hks k (.tail _ hk),(g2.room.trans g1.room).trans hR⟩⟩
theorem FoldSt.done{op:Int}{m m':Mg}{h r:Nat}(q:FoldSt S n H R op [] m h m' r):m=m'/\h=r:=by
 have:=q.run;rw[foldM] at this;simp only[jEa,jIa,kJb] at this;exact this
structure ListSt (S:Sem) (n H R:Nat) (ks:List Ex) (m:Mg) (acc:List Nat) (m':Mg) (l:List Nat):Prop where
 run:listM ks m acc=some (m',some l)
 ok:Sd S n m
 fit:Fit n H m (Ex.szs ks+3) (3*Ex.szs ks)\/∃mx,(∀k∈ks,k.sz<=mx)/\Fit n H m (mx+ks.length+3) (3*Ex.szs ks)
 oks:∀k∈ks,ExOk n k
 room:m.s.pl.room=R
theorem ListSt.step(hS1:∀φ ψ χ,S 1 φ ψ χ=iteF φ ψ χ){e:Ex}{ks:List Ex}{m m':Mg}{acc l:List Nat}(q:ListSt S n H R (e::ks) m acc m' l) :
  Fit n H m (e.sz+3) (3*e.sz)/\∃m1 g,buildM e m=some (m1,g,true)/\ListSt S n H R ks m1 (acc++[g]) m' l:=by
 obtain⟨hm,hs,f,hks,hR⟩:=q;rw[Ex.szs,yB] at f;rw[listM] at hm;have hsz:0<e.sz:=by cases e;rw[Ex.sz];omega
 have fe:Fit n H m (e.sz+3) (3*e.sz):=by
  rcases f with f|⟨mx,hmx,f⟩
  . exact f.step (by omega) rfl ⟨[],rfl⟩ (by omega)
  . have:=hmx e (.head _)
    exact f.step (by omega) rfl ⟨[],rfl⟩ (by omega)
 obtain⟨m1,g,r1,g1⟩:=buildM_ok hS1 e m (hks e (.head _)) hs fe;simp only[r1] at hm;have hc1:=g1.cost;have hlen1:=g1.len;refine⟨fe,m1,g,r1,hm,g1.ok,?_,λk hk=>hks k (.tail _ hk),g1.room.trans hR⟩;rcases f with f|⟨mx,hmx,f⟩
 . exact .inl (f.step (by omega) g1.room g1.waits (by omega))
 . exact .inr ⟨mx,λk hk=>hmx k (.tail _ hk),f.step (by omega) g1.room g1.waits (by omega)⟩
theorem ListSt.done{m m':Mg}{acc l:List Nat}(q:ListSt S n H R [] m acc m' l):m=m'/\acc=l:=by
 have:=q.run;rw[listM] at this;simp only[jEa,jIa] at this;exact this
structure EndNot (S:Sem) (n H R:Nat) (m m':Mg) (l:List Nat) (r:Nat):Prop where
 ex:∃a m2,l=[a]/\m.not_ (a:Int)=some (m2,r,0)/\Sd S n m/\Sd S n m2/\m2.drop [(a:Int)]=some (m',0)
structure EndIte (S:Sem) (n H R:Nat) (m m':Mg) (l:List Nat) (r:Nat):Prop where
 ex:∃a b c m2,l=[a,b,c]/\(∃φ,m.fn (a:Int)=some φ)/\(∃φ,m.fn (b:Int)=some φ)/\(∃φ,m.fn (c:Int)=some φ)/\m.hs.length<1152921504606846976/\m.s.pl.room=R/\m.iteH a b c=some (m2,r,0)/\Sd S n m/\Sd S n m2/\m2.drop [(a:Int),(b:Int),(c:Int)]=some (m',0)
structure EndBin (S:Sem) (n H R:Nat) (op:Int) (m m':Mg) (l:List Nat) (r:Nat):Prop where
 ex:∃a b,l=[a,b]/\JoinOk S n H R m a b/\joinM m op a b=some (m',r,true)
theorem endJ_dropG{m1 m':Mg}{r0 r:Nat}{l:List Int}{b:Bool}(h:endJ (some (m1,r0,0)) l=some (m',r,b)):r0=r/\∃er,m1.drop l=some (m',er)/\b=(er==0):=by
 unfold endJ at h;simp only[jEb] at h;cases hd:m1.drop l with
 | none=>rw[hd] at h;cases h
 | some q =>
   rw[hd] at h;obtain⟨q1,q2⟩:=q;simp only[Option.map_some,jEa,jIa] at h;exact⟨h.2.1,q2,by rw[h.1],h.2.2.symm⟩
theorem build_list(hS1:∀φ ψ χ,S 1 φ ψ χ=iteF φ ψ χ){op var:Int}{ks:List Ex}{m m':Mg}{r:Nat}(hok:ExOk n (.mk op var ks))(hop:op=4\/op=8\/op=9\/op=10)(hs:Sd S n m)(f:Fit n H m (Ex.szs ks+4) (3*Ex.szs ks+3))(hR:m.s.pl.room=R)
  (hm:buildM (.mk op var ks) m=some (m',r,true)):∃m1 l,ListSt S n H R ks m [] m1 l/\l.length=ks.length/\((op=4/\EndNot S n H R m1 m' l r)\/(op=10/\EndIte S n H R m1 m' l r)\/((op=8\/op=9)/\EndBin S n H R op m1 m' l r)):=by
 obtain⟨hsh,hks⟩:shapeOk n op var ks.length/\∀k∈ks,ExOk n k:=by cases hok;exact⟨‹_›,‹_›⟩
 have fl:Fit n H m (Ex.szs ks+3) (3*Ex.szs ks):=f.step (by omega) rfl ⟨[],rfl⟩ (by omega);obtain⟨m1,l,r1,g1⟩:=listM_ok hS1 ks m [] hks hs fl;rw[buildM,jAa (by omega),jAa (by omega),jAa (by omega)] at hm;simp only[r1,List.nil_append] at hm;have hlk:=g1.lk;have hln:=g1.len;have hc1:=g1.cost;have hge:=g1.ge;have hn0:=hs.next.1;have hszs:=szs_ge ks;have hget:∀i,i<ks.length->∃h,l[i]?=some h/\l.getD i 0=h/\(∃φ,m1.fn (h:Int)=some φ)/\m.next<=h/\h<m1.next:=λi hi=>by
  have hh:=yA (l:=l) (i:=i) (by omega);obtain⟨e,h1,h2⟩:=g1.vals i _ hh;obtain⟨h3,h4⟩:=g1.bd _ (jWb (l:=l) (n:=i) (by omega));exact⟨_,hh,by rw[yD,hh];rfl,⟨_,h2⟩,h3,h4⟩
 have f1:Fit n H m1 3 2:=f.step (by omega) g1.room g1.waits (by omega);have hH1:m1.hs.length<1152921504606846976:=by have:=f1.lt.1;omega
 have hR1:m1.s.pl.room=R:=g1.room.trans hR;refine⟨m1,l,⟨by rw[r1];simp,hs,.inl fl,hks,hR⟩,hlk,?_⟩;by_cases c4:op=4
 . have hk:ks.length=1:=by unfold shapeOk at hsh;omega
   obtain⟨h,i1,i2,⟨φ,i4⟩,i5,i6⟩:=hget 0 (by omega);have hl:l=[h]:=by
    match l,hlk.trans hk,i1 with
    | [a],_,i1=>simp at i1;rw[i1]
   rw[jAb ⟨c4,by omega⟩,i2] at hm;obtain⟨m2,r2,g2⟩:=not_ok g1.ok f1.lt.1 f1.lt.2 i4;rw[r2] at hm;obtain⟨rfl,er,hd,h0⟩:=endJ_dropG hm;obtain rfl:er=0:=by simpa using h0.symm
   exact .inl ⟨c4,⟨h,m2,hl,r2,g1.ok,g2.ok,hd⟩⟩
 rw[jAa (by omega)] at hm;by_cases c10:op=10
 . have hk:ks.length=3:=by unfold shapeOk at hsh;omega
   obtain⟨h0,i1,i2,⟨φ,i4⟩,i5,i6⟩:=hget 0 (by omega);obtain⟨h1,j1,j2,⟨ψ,j4⟩,j5,j6⟩:=hget 1 (by omega);obtain⟨h2,k1,k2,⟨χ,k4⟩,k5,k6⟩:=hget 2 (by omega);have hl:l=[h0,h1,h2]:=by
    match l,hlk.trans hk,i1,j1,k1 with
    | [a,b,c],_,i1,j1,k1=>simp at i1 j1 k1;rw[i1,j1,k1]
   rw[jAb ⟨c10,by omega⟩,i2,j2,k2] at hm;obtain⟨m2,r2,g2⟩:=f1.ite hS1 g1.ok i4 j4 k4;rw[r2] at hm;obtain⟨rfl,er,hd,hz⟩:=endJ_dropG hm;obtain rfl:er=0:=by simpa using hz.symm
   exact .inr (.inl ⟨c10,⟨h0,h1,h2,m2,hl,⟨_,i4⟩,⟨_,j4⟩,⟨_,k4⟩,hH1,hR1,r2,g1.ok,g2.ok,hd⟩⟩)
 rw[jAa (by omega)] at hm;have hk:ks.length=2:=by unfold shapeOk at hsh;omega
 obtain⟨h0,i1,i2,i4,i5,i6⟩:=hget 0 (by omega);obtain⟨h1,j1,j2,j4,j5,j6⟩:=hget 1 (by omega);have hl:l=[h0,h1]:=by
  match l,hlk.trans hk,i1,j1 with
  | [a,b],_,i1,j1=>simp at i1 j1;rw[i1,j1]
 have hnd:=g1.nd;rw[hl] at hnd;simp only[jMa,jBa,jCa,jJb,List.nodup_nil,not_false_eq_true,kJb] at hnd;rw[jAb (by omega),i2,j2] at hm;exact .inr (.inr ⟨by omega,⟨h0,h1,hl,⟨g1.ok,f1.step (by omega) rfl ⟨[],rfl⟩ (by omega),hR1,i4,j4,by omega,by omega,by omega⟩,hm⟩⟩)
theorem build_fold{op var:Int}{ks:List Ex}{m m':Mg}{r:Nat}(hok:ExOk n (.mk op var ks))(hop:op=5\/op=6\/op=7)(hs:Sd S n m)(f:Fit n H m (Ex.szs ks+4) (3*Ex.szs ks+3))(hR:m.s.pl.room=R)
  (hm:buildM (.mk op var ks) m=some (m',r,true)):∃m1 h,m.copy (if op=5 then 1 else 0)=some (m1,h,0)/\FoldSt S n H R op ks m1 h m' r:=by
 obtain⟨hsh,hks⟩:shapeOk n op var ks.length/\∀k∈ks,ExOk n k:=by cases hok;exact⟨‹_›,‹_›⟩
 rw[buildM,jAa (by omega),jAa (by omega),jAb hop] at hm;obtain⟨φ,hφ⟩:∃φ,m.fn (if op=5 then 1 else 0)=some φ:=by
  by_cases h5:op=5
  . rw[jAb h5];exact⟨_,hs.c01.2⟩
  . rw[jAa h5];exact⟨_,hs.c01.1⟩
 obtain⟨m1,r1,g⟩:=copy_ok hs f.lt.1 f.lt.2 hφ;simp only[r1,jEb] at hm;have hc:=g.cost;have hl:=g.lt;have hlen:=g.len;have hn0:=hs.next.1;exact⟨m1,m.next,r1,hm,g.ok,⟨_,by rw[g.fn,jAb rfl]⟩,by omega,f.step (by omega) g.room g.waits (by omega),hks,g.room.trans hR⟩
theorem build_const{op var:Int}{ks:List Ex}{m m':Mg}{r:Nat}(hop:op=1\/op=2)(hm:buildM (.mk op var ks) m=some (m',r,true)):m.copy (if op=1 then 1 else 0)=some (m',r,0):=by
 rw[buildM,jAb hop] at hm;cases hc:m.copy (if op=1 then 1 else 0) with
 | none=>rw[hc] at hm;cases hm
 | some q =>
   obtain⟨q1,q2,q3⟩:=q;rw[hc] at hm;simp only[Option.map_some,jEa,jIa,jRb] at hm;rw[hm.1,hm.2.1,hm.2.2]
theorem build_var{var:Int}{ks:List Ex}{m m':Mg}{r:Nat}(hm:buildM (.mk 3 var ks) m=some (m',r,true)):m.var_ var=some (m',r,0):=by
 rw[buildM,jAa (by omega),jAb rfl] at hm;cases hc:m.var_ var with
 | none=>rw[hc] at hm;cases hm
 | some q =>
   obtain⟨q1,q2,q3⟩:=q;rw[hc] at hm;simp only[Option.map_some,jEa,jIa,jRb] at hm;rw[hm.1,hm.2.1,hm.2.2]
end G
section
open Go.RowKit
section
variable{S:G.Sem} {n c:Nat} {E w:World} {I p:PH} {ms:List PH} {D:Nat} {m m':G.Mg} {h er:Nat}
theorem Sat.sw{m n:PH}(h:Sat E I (m::n::ms) w):Sat E I (n::m::ms) w:=h.perm (List.Perm.swap n m ms)
theorem InvS.edge{Φ:Int->Option G.Fn}{H:List (Int×Nat)}{r:Nat}(hI:InvS S n c Φ H r m){k:Int}{φ:G.Fn}(hk:Φ k=some φ):∃e,m.of k=some e/\G.val m.s.nd e/\G.den m.s.nd e=φ:=by
 have hk:m.fn k=some φ:=by rw[hI.fn];exact hk
 unfold G.Mg.fn at hk;cases ho:m.of k with
 | none=>rw[ho] at hk;cases hk
 | some e=>rw[ho] at hk;injection hk with hk;exact⟨e,rfl,G.of_val hI.ok ho,hk⟩
theorem wite_any(hS1:∀φ ψ χ,S 1 φ ψ χ=G.iteF φ ψ χ)(hs:G.Snd S n c m)(hH:m.hs.length<1152921504606846976)(hr:m.s.pl.room<=900000){f g k:Int}{φ ψ χ:G.Fn}(hf:m.fn f=some φ)(hg:m.fn g=some ψ)(hk:m.fn k=some χ)(hm:m.iteH f g k=some (m',h,er))(hA:MgAt D m p)(hS:Sat E I (p::ms) w) :
  Calls Tryz.prog 89 #[vPt D,.int .i64 f,.int .i64 g,.int .i64 k] w λe w'=>e=.returned (.tuple #[nv h,nv er])/\∃p',MgAt D m' p'/\Sat E I (p'::ms) w' :=
 mite_any f g k (InvS.keeps hH hr) (InvS.doOk (K:=2^n-1) (R:=ValR) (λm1 hI=>by
  obtain⟨ef,h1,h2,h3⟩:=hI.edge hf;obtain⟨eg,h4,h5,h6⟩:=hI.edge hg;obtain⟨ek,h7,h8,h9⟩:=hI.edge hk;rw[iteS_eq h1 h4 h7]
  have:=hI.ok.iteR hS1 h2 h5 h8;rw[hI.hs] at this;exact this.mono (jBb _) λ_ _ _ h=>h.valR) (λ_ _ h=>h) (λ_ h=>h)) (λm1 hI=>by
  obtain⟨ef,h1,_⟩:=hI.edge hf;obtain⟨eg,h4,_⟩:=hI.edge hg;obtain⟨ek,h7,_⟩:=hI.edge hk;exact⟨⟨_,h1⟩,⟨_,h4⟩,⟨_,h7⟩⟩) (InvS.of hs) hm hA hS
theorem Snd.of_big(hs:G.Snd S n c m)(k:Int):∀a,m.of k=some a->a<4611686018427387904:=λa ha=>by
 have:=Snd.of_lt hs ha;omega
theorem wnot_any(hs:G.Snd S n c m){k:Int}(hm:m.not_ k=some (m',h,er))(hA:MgAt D m p)(hS:Sat E I (p::ms) w) :
  Calls Tryz.prog 88 #[vPt D,.int .i64 k] w λe w'=>e=.returned (.tuple #[nv h,nv er])/\∃p',MgAt D m' p'/\Sat E I (p'::ms) w' :=
 mnot_any hm (Snd.new_none hs) (Snd.of_big hs k) hA hS
theorem wcopy_any(hs:G.Snd S n c m){k:Int}(hm:m.copy k=some (m',h,er))(hA:MgAt D m p)(hS:Sat E I (p::ms) w) :
  Calls Tryz.prog 85 #[vPt D,.int .i64 k] w λe w'=>e=.returned (.tuple #[nv h,nv er])/\∃p',MgAt D m' p'/\Sat E I (p'::ms) w' :=
 mcopy_any hm (Snd.new_none hs) (Snd.of_big hs k) hA hS
theorem wdrop_any(hs:G.Snd S n c m){l:List Int}(hlen:l.length<=1000000){vl:Value}(hvl:IntR I vl l)(hm:m.drop l=some (m',er))(hA:MgAt D m p)(hS:Sat E I (p::ms) w) :
  Calls Tryz.prog 65 #[vPt D,vl] w λe w'=>e=.returned (nv er)/\∃p',MgAt D m' p'/\Sat E I (p'::ms) w' :=
 mdrop_any hvl hlen (Snd.hs_lt hs) hm hA hS
theorem wdropB_any(hs:G.Snd S n c m){l:List Int}(hlen:l.length<=1000000){vl:Value}{b:PH}(hvl:IntR b vl l)(hm:m.drop l=some (m',er))(hA:MgAt D m p)(hS:Sat E I (b::p::ms) w) :
  Calls Tryz.prog 65 #[vPt D,vl] w λe w'=>e=.returned (nv er)/\∃p',MgAt D m' p'/\Sat E I (b::p'::ms) w':=by
 obtain⟨J,l1,l2,h2,back⟩:=hS.ice;refine (wdrop_any hs hlen (hvl.le l2) hm hA h2).mono ?_;rintro e w' ⟨rfl,p',hA',hS'⟩;exact⟨rfl,p',hA',back _ _ hS'⟩
theorem wswap_any(hs:G.Snd S n c m)(hr:m.s.pl.room<=900000){level:Int}(hm:m.swap level=some (m',er))(hA:MgAt D m p)(hS:Sat E I (p::ms) w) :
  Calls Tryz.prog 84 #[vPt D,.int .i64 level] w λe w'=>e=.returned (nv er)/\∃p',MgAt D m' p'/\Sat E I (p'::ms) w' :=
 mswap_any hm hs.ok.saneD hs.ok.pm (hs.ok.swap_lenD (by
  have:=hs.ok.pl.len
  have:=G.many_le m.s.pl.slots;omega)) hA hS
end
theorem IntR.one{X:Nat}{vs:Array Value}{e:TypeId}{l:List Int}(h:vs.toList=l.map (Value.int .i64))(hl:0<l.length):IntR (PH.one X (.cells vs e)) (.slice (some ⟨X,0,none⟩) l.length l.length) l:=by
 refine⟨⟨_,_,rfl⟩,λ_=>⟨X,_,rfl,λi x hx=>Qb ?_⟩⟩;rw[h,jO,hx];rfl
end
section
open Go.RowKit
section
variable{S:G.Sem} {n H:Nat} {E w:World} {I p:PH} {ms:List PH} {D:Nat} {m m':G.Mg} {r:Nat}
theorem wdropL_any{c:Nat}(hs:G.Snd S n c m){l:List Int}(hlen:0<l.length/\l.length<=1000000){m':G.Mg}{er:Nat}(hm:m.drop l=some (m',er)){XS:Nat}{vs:Array Value}(hv:vs.toList=l.map (Value.int .i64))(hA:MgAt D m p)(hS:Sat E I (PH.one XS (.cells vs 3)::p::ms) w) :
  Calls Tryz.prog 65 #[vPt D,.slice (some ⟨XS,0,none⟩) l.length l.length] w λe w'=>e=.returned (nv er)/\∃p',MgAt D m' p'/\Sat E I (p'::ms) w' :=
 (wdropB_any hs hlen.2 (IntR.one hv hlen.1) hm hA hS).mono (by
   rintro e w' ⟨rfl,p',hA',hS'⟩;exact⟨rfl,p',hA',hS'.drop⟩)
theorem joinM_two(hS1:∀φ ψ χ,S 1 φ ψ χ=G.iteF φ ψ χ)(hs:G.Sd S n m)(f:G.Fit n H m 2 2){op a b:Int}{φ ψ:G.Fn}(ha:m.fn a=some φ)(hb:m.fn b=some ψ)(h1:1<a)(h2:1<b)(hop:op=7\/op=9)(hm:G.joinM m op a b=some (m',r,true)) :
  ∃m1 m2 m3 χ,m.not_ b=some (m1,m.next,0)/\G.Sd S n m1/\m1.hs.length<1152921504606846976/\m1.s.pl.room=m.s.pl.room/\m1.fn a=some φ/\m1.fn b=some ψ/\m1.fn (m.next:Int)=some χ /\
    (if op=7 then m1.iteH a (m.next:Int) b else m1.iteH a b (m.next:Int))=some (m2,r,0)/\G.Sd S n m2/\m2.drop [(m.next:Int)]=some (m3,0)/\G.Sd S n m3/\m3.drop [a,b]=some (m',0):=by
 have hn0:=hs.next.1;obtain⟨m1,r1,g1⟩:=G.not_ok hs f.lt.1 f.lt.2 hb;have hc1:=g1.cost;have f1:G.Fit n H m1 1 1:=f.step (by rw[g1.len];omega) g1.room g1.waits (by omega);have hn1:m1.fn (m.next:Int)=some (λρ=>!ψ ρ):=by rw[g1.fn,jAb rfl]
 have ha1:=g1.fn_old hs ha;have hb1:=g1.fn_old hs hb;obtain⟨m2,χ2,r2,g2⟩:∃m2 χ,(if op=7 then m1.iteH a (m.next:Int) b else m1.iteH a b (m.next:Int))=some (m2,m1.next,0)/\G.New S n m1 m2 m1.next χ 1:=by
  by_cases e7:op=7
  . rw[jAb e7]
    obtain⟨m2,r,g⟩:=f1.ite hS1 g1.ok ha1 hn1 hb1;exact⟨m2,_,r,g⟩
  . rw[jAa e7]
    obtain⟨m2,r,g⟩:=f1.ite hS1 g1.ok ha1 hb1 hn1;exact⟨m2,_,r,g⟩
 obtain⟨m3,r3,g3⟩:=G.drop_ok g2.ok (g2.fn_old g1.ok hn1) (by omega) [];have r3:m2.drop [(m.next:Int)]=some (m3,0):=r3;unfold G.joinM at hm;rw[jAa (by omega),jAa (by omega),jAa (by omega)] at hm;simp only[r1,jEb,r2,r3,zK] at hm;obtain⟨rfl,er,hd,h0⟩:=G.endJ_dropG hm;obtain rfl:er=0:=by simpa using h0.symm
 exact⟨m1,m2,m3,_,r1,g1.ok,by have:=f1.lt.1;omega,g1.room,ha1,hb1,hn1,r2,g2.ok,r3,g3.ok,hd⟩
theorem wjoin_any(hS1:∀φ ψ χ,S 1 φ ψ χ=G.iteF φ ψ χ)(hs:G.Sd S n m)(f:G.Fit n H m 2 2)(hr:m.s.pl.room<=900000){op a b:Int}{φ ψ:G.Fn}(ha:m.fn a=some φ)(hb:m.fn b=some ψ)(h1:1<a)(h2:1<b)(hab:a≠b)(hop:op=5\/op=6\/op=7\/op=8\/op=9)
  (hm:G.joinM m op a b=some (m',r,true))(hA:MgAt D m p)(hS:Sat E I (p::ms) w) :
  Calls Tryz.prog 87 #[vPt D,.int .i64 op,.int .i64 a,.int .i64 b] w λe w'=>e=.returned (.tuple #[nv r,.bool true])/\∃p',MgAt D m' p'/\Sat E I (p'::ms) w':=by
 have hH:m.hs.length<1152921504606846976:=by have:=f.lt.1;omega
 have hc:=hs.c01;have one:∀(x y z:Int) (φ ψ χ:G.Fn),m.fn x=some φ->m.fn y=some ψ->m.fn z=some χ->G.endJ (m.iteH x y z) [a,b]=some (m',r,true) ->
   Hid (∀(w:World) (p:PH),MgAt D m p->Sat E I (p::ms) w->Calls Tryz.prog 89 #[vPt D,.int .i64 x,.int .i64 y,.int .i64 z] w λe w'=>∃m1,e=.returned (.tuple #[nv r,.int .i64 0])/\(∃p',MgAt D m1 p'/\Sat E I (p'::ms) w') /\
    Hid (∀(w:World) (p:PH) (XS:Nat),MgAt D m1 p->Sat E I (PH.one XS (.cells #[.int .i64 a,.int .i64 b] 3)::p::ms) w->Calls Tryz.prog 65 #[vPt D,.slice (some ⟨XS,0,none⟩) 2 2] w λe w'=>e=.returned (.int .i64 0)/\∃p',MgAt D m' p'/\Sat E I (p'::ms) w')):=by
  intro x y z φ ψ χ hx hy hz he;obtain⟨m1,r1,g⟩:=f.ite hS1 hs hx hy hz;rw[r1] at he;obtain⟨rfl,er,hd,h0⟩:=G.endJ_dropG he;obtain rfl:er=0:=by simpa using h0.symm
  refine yH λw p hA hS=>(wite_any hS1 hs hH hr hx hy hz r1 hA hS).mono ?_
  rintro e w' ⟨rfl,hp⟩;exact⟨m1,rfl,hp,yH λw p XS hA hS=>wdropL_any (l:=[a,b]) g.ok ⟨by simp,by simp⟩ hd rfl hA hS⟩
 have HA:=yH hA;clear hA;have hm0:=hm;unfold G.joinM at hm;have hop:op=5\/op=6\/op=8\/(op=7\/op=9):=by omega
 rcases hop with rfl|rfl|rfl|hop
 . rw[jAb rfl] at hm
   have HI:=one a b 0 _ _ _ ha hb hc.1 hm;clear one hm hm0 ha hb hc hs f hH;go_enter Tryz.func87,Tryz.ntmps87;go_wp2_with (first
    | (go_at_call 89;(with_reducible refine yI (HI.out _ _ HA.out hS) ?_);clear hS;rintro e w ⟨m1,rfl,⟨p1,hA1,hS⟩,HDr⟩;have HA1:=yH hA1;clear hA1)
    | (go_at_call 65;(with_reducible refine bD (HDr.out _ _ _ HA1.out hS) ?_);clear hS;intro w p2 HA2 hS)
    | (refine aG ?_)|(refine aY ?_;clear hS;intro XS w hS))
   go_ret2;exact⟨rfl,p2,HA2.out,hS⟩
 . rw[jAa (by decide),jAb rfl] at hm
   have HI:=one a 1 b _ _ _ ha hc.2 hb hm;clear one hm hm0 ha hb hc hs f hH;go_enter Tryz.func87,Tryz.ntmps87;go_wp2_with (first
    | (go_at_call 89;(with_reducible refine yI (HI.out _ _ HA.out hS) ?_);clear hS;rintro e w ⟨m1,rfl,⟨p1,hA1,hS⟩,HDr⟩;have HA1:=yH hA1;clear hA1)
    | (go_at_call 65;(with_reducible refine bD (HDr.out _ _ _ HA1.out hS) ?_);clear hS;intro w p2 HA2 hS)
    | (refine aG ?_)|(refine aY ?_;clear hS;intro XS w hS))
   go_ret2;exact⟨rfl,p2,HA2.out,hS⟩
 . rw[jAa (by decide),jAa (by decide),jAb rfl] at hm
   have HI:=one a b 1 _ _ _ ha hb hc.2 hm;clear one hm hm0 ha hb hc hs f hH;go_enter Tryz.func87,Tryz.ntmps87;go_wp2_with (first
    | (go_at_call 89;(with_reducible refine yI (HI.out _ _ HA.out hS) ?_);clear hS;rintro e w ⟨m1,rfl,⟨p1,hA1,hS⟩,HDr⟩;have HA1:=yH hA1;clear hA1)
    | (go_at_call 65;(with_reducible refine bD (HDr.out _ _ _ HA1.out hS) ?_);clear hS;intro w p2 HA2 hS)
    | (refine aG ?_)|(refine aY ?_;clear hS;intro XS w hS))
   go_ret2;exact⟨rfl,p2,HA2.out,hS⟩
 . obtain⟨m1,m2,m3,χ,q1,q2,q3,q4,q5,q6,q7,q8,q9,q10,q11,q12⟩:=joinM_two hS1 hs f ha hb h1 h2 hop hm0
   have HN:=yH (λ(w:World) (p:PH) (hA:MgAt D m p) (hS:Sat E I (p::ms) w)=>wnot_any hs q1 hA hS);have HD1:Hid (∀(w:World) (p:PH) (XS:Nat),MgAt D m2 p->Sat E I (PH.one XS (.cells #[nv m.next] 3)::p::ms) w->Calls Tryz.prog 65 #[vPt D,.slice (some ⟨XS,0,none⟩) 1 1] w λe w'=>e=.returned (.int .i64 0)/\∃p',MgAt D m3 p'/\Sat E I (p'::ms) w'):=yH λw p XS hA hS=>wdropL_any (l:=[(m.next:Int)]) q9 ⟨by simp,by simp⟩ q10 rfl hA hS
   have HD2:Hid (∀(w:World) (p:PH) (XS:Nat),MgAt D m3 p->Sat E I (PH.one XS (.cells #[.int .i64 a,.int .i64 b] 3)::p::ms) w->Calls Tryz.prog 65 #[vPt D,.slice (some ⟨XS,0,none⟩) 2 2] w λe w'=>e=.returned (.int .i64 0)/\∃p',MgAt D m' p'/\Sat E I (p'::ms) w'):=yH λw p XS hA hS=>wdropL_any (l:=[a,b]) q11 ⟨by simp,by simp⟩ q12 rfl hA hS
   rcases hop with rfl|rfl
   . rw[jAb rfl] at q8
     have HI:Hid (∀(w:World) (p:PH),MgAt D m1 p->Sat E I (p::ms) w->Calls Tryz.prog 89 #[vPt D,.int .i64 a,nv m.next,.int .i64 b] w λe w'=>e=.returned (.tuple #[nv r,.int .i64 0])/\∃p',MgAt D m2 p'/\Sat E I (p'::ms) w'):=yH λw p hA hS=>wite_any hS1 q2 q3 (by rw[q4];exact hr) q5 q7 q6 q8 hA hS
     clear one hm hm0 ha hb hc hs f hH q1 q2 q3 q4 q5 q6 q7 q8 q9 q10 q11 q12;generalize m.next=k at *
     go_enter Tryz.func87,Tryz.ntmps87;go_wp2_with (first
      | (go_at_call 88;(with_reducible refine bD (HN.out _ _ HA.out hS) ?_);clear hS;intro w p1 HA1 hS)
      | (go_at_call 89;(with_reducible refine bD (HI.out _ _ HA1.out hS) ?_);clear hS;intro w p2 HA2 hS)
      | (go_at_call 65;first|((with_reducible refine yI (HD1.out _ _ _ HA2.out hS) ?_);clear hS;rintro e w ⟨rfl,p3,hA3,hS⟩;have HA3:=yH hA3;clear hA3 HA2)|((with_reducible refine yI (HD2.out _ _ _ HA3.out hS) ?_);clear hS;rintro e w ⟨rfl,p4,hA4,hS⟩;have HA4:=yH hA4;clear hA4))
      | ((with_reducible refine Qu ?_);first|((with_reducible refine Zs ?_);  ((with_reducible refine Qy ?hw ?_);case hw=>(simp only[Region.wanted,yielded,zC,zA,zB,zK,jUa];done)) )|((with_reducible refine Kz ?_);(refine' bsl hS ?hr ?_);(case hr=>(intro w0;go_simp;rfl));clear hS;intro XS w hS;(try simp only[Act.put,zE,zF,zG]))))
     go_ret2;exact⟨rfl,p4,HA4.out,hS⟩
   . rw[jAa (by decide)] at q8
     have HI:Hid (∀(w:World) (p:PH),MgAt D m1 p->Sat E I (p::ms) w->Calls Tryz.prog 89 #[vPt D,.int .i64 a,.int .i64 b,nv m.next] w λe w'=>e=.returned (.tuple #[nv r,.int .i64 0])/\∃p',MgAt D m2 p'/\Sat E I (p'::ms) w'):=yH λw p hA hS=>wite_any hS1 q2 q3 (by rw[q4];exact hr) q5 q6 q7 q8 hA hS
     clear one hm hm0 ha hb hc hs f hH q1 q2 q3 q4 q5 q6 q7 q8 q9 q10 q11 q12;generalize m.next=k at *
     go_enter Tryz.func87,Tryz.ntmps87;go_wp2_with (first
      | (go_at_call 88;(with_reducible refine bD (HN.out _ _ HA.out hS) ?_);clear hS;intro w p1 HA1 hS)
      | (go_at_call 89;(with_reducible refine bD (HI.out _ _ HA1.out hS) ?_);clear hS;intro w p2 HA2 hS)
      | (go_at_call 65;first|((with_reducible refine yI (HD1.out _ _ _ HA2.out hS) ?_);clear hS;rintro e w ⟨rfl,p3,hA3,hS⟩;have HA3:=yH hA3;clear hA3 HA2)|((with_reducible refine yI (HD2.out _ _ _ HA3.out hS) ?_);clear hS;rintro e w ⟨rfl,p4,hA4,hS⟩;have HA4:=yH hA4;clear hA4))
      | ((with_reducible refine Qu ?_);first|((with_reducible refine Zs ?_);  ((with_reducible refine Qy ?hw ?_);case hw=>(simp only[Region.wanted,yielded,zC,zA,zB,zK,jUa];done)) )|((with_reducible refine Kz ?_);(refine' bsl hS ?hr ?_);(case hr=>(intro w0;go_simp;rfl));clear hS;intro XS w hS;(try simp only[Act.put,zE,zF,zG]))))
     go_ret2;exact⟨rfl,p4,HA4.out,hS⟩
end
end
section
open Go.RowKit
inductive Tr where
 | mk (op var:Int) (A:Option Addr) (cap:Nat) (kids:List Tr)
namespace Tr
def op:Tr->Int|mk o _ _ _ _=>o
def var:Tr->Int|mk _ v _ _ _=>v
def A:Tr->Option Addr|mk _ _ a _ _=>a
def cap:Tr->Nat|mk _ _ _ c _=>c
def kids:Tr->List Tr|mk _ _ _ _ k=>k
def cells(t:Tr):List Value:=[.int .i64 t.op,.int .i64 t.var,.slice t.A t.kids.length t.cap]
def val(t:Tr):Value:=.agg #[.int .i64 t.op,.int .i64 t.var,.slice t.A t.kids.length t.cap]
theorem val_cells(t:Tr):t.val=.agg t.cells.toArray:=rfl
end Tr
def Row(I:PH)(A:Option Addr)(l:List Tr):Prop :=
 l.length<=9223372036854775807/\(0<l.length->∃X off,A=some ⟨X,off,none⟩/\∀k t,l[k]?=some t->Cells I X (off+k*3) t.cells)
inductive In (I:PH):Tr->Prop
 | mk {op var:Int} {A:Option Addr} {cap:Nat} {kids:List Tr}:Row I A kids->(∀t∈kids,In I t)->In I (.mk op var A cap kids)
theorem Row.le{I J:PH}(h:I.le J){A:Option Addr}{l:List Tr}(hr:Row I A l):Row J A l :=
 ⟨hr.1,λhl=>by
   obtain⟨X,off,e,hc⟩:=hr.2 hl;exact⟨X,off,e,λk t hk=>(hc k t hk).le h⟩⟩
theorem In.le{I J:PH}(h:I.le J){t:Tr}(ht:In I t):In J t:=by
 induction ht with
 | mk hr _ ih=>exact .mk (hr.le h) ih
theorem In.row{I:PH}{t:Tr}(h:In I t):Row I t.A t.kids:=by cases h;assumption
theorem In.kid{I:PH}{t:Tr}(h:In I t):∀k∈t.kids,In I k:=by cases h;assumption
theorem In.at_{I:PH}{t:Tr}(h:In I t):0<t.kids.length->∃X off,t.A=some ⟨X,off,none⟩/\∀k u,t.kids[k]?=some u->Cells I X (off+k*3) u.cells/\In I u:=λhl=>by
 obtain⟨X,off,e,hc⟩:=h.row.2 hl;exact⟨X,off,e,λk u hk=>⟨hc k u hk,h.kid u (jCb hk)⟩⟩
def few(op:Int):Int:=if op=1\/op=2\/op=3 then 0 else if op=4 then 1 else if op=5\/op=6\/op=7 then 0 else if op=8\/op=9 then 2 else if op=10 then 3 else -1
def many(op:Int):Int:=if op=1\/op=2\/op=3 then 0 else if op=4 then 1 else if op=5\/op=6\/op=7 then 64 else if op=8\/op=9 then 2 else if op=10 then 3 else -1
theorem Xl:Ky Tryz.prog 87=some true:=by kernel_rfl
theorem Xd:Kg Tryz.prog 87=some 3:=by kernel_rfl
theorem ty_z87:Xh Tryz.prog 87=some (.agg #[.int .i64 0,.int .i64 0,.slice none 0 0]):=by kernel_rfl
theorem Yc:Ky Tryz.prog 35=some false:=by kernel_rfl
theorem rkids_any(op:Int)(w:World):Calls Tryz.prog 119 #[.int .i64 op] w λe w'=>e=.returned (.tuple #[.int .i64 (few op),.int .i64 (many op)])/\w'=w:=by
 unfold few many;by_cases h1:op=1\/op=2\/op=3
 . rcases h1 with rfl|rfl|rfl <;> (go_enter Tryz.func119,Tryz.ntmps119;go_wp2_with fail;go_ret2;exact⟨rfl,rfl⟩)
 by_cases h2:op=4
 . subst h2;go_enter Tryz.func119,Tryz.ntmps119;go_wp2_with fail;go_ret2;exact⟨rfl,rfl⟩
 by_cases h3:op=5\/op=6\/op=7
 . rcases h3 with rfl|rfl|rfl <;> (go_enter Tryz.func119,Tryz.ntmps119;go_wp2_with fail;go_ret2;exact⟨rfl,rfl⟩)
 by_cases h4:op=8\/op=9
 . rcases h4 with rfl|rfl <;> (go_enter Tryz.func119,Tryz.ntmps119;go_wp2_with fail;go_ret2;exact⟨rfl,rfl⟩)
 by_cases h5:op=10
 . subst h5;go_enter Tryz.func119,Tryz.ntmps119;go_wp2_with fail;go_ret2;exact⟨rfl,rfl⟩
 simp only[not_or] at h1 h3 h4;obtain⟨a1,a2,a3⟩:=h1;obtain⟨b1,b2,b3⟩:=h3;obtain⟨c1,c2⟩:=h4;rw[jAa (by omega),jAa h2,jAa (by omega),jAa (by omega),jAa h5];go_enter Tryz.func119,Tryz.ntmps119;go_wp2_with fail
 go_ret2;exact⟨rfl,rfl⟩
def lenP(op:Int)(n:Nat):Int:=if (n:Int)<few op then 3 else if many op<(n:Int) then 3 else 0
def wrongP(op var:Int)(n:Nat):Int:=if few op<0 then 11 else if op=3 then (if var<0 then 9 else if 64<=var then 9 else lenP op n) else if var=0 then lenP op n else 9
def Tr.wrong(t:Tr):Int:=wrongP t.op t.var t.kids.length
mutual
def Tr.size:Tr->Nat
 | .mk _ _ _ _ ks=>1+Tr.sizes ks
def Tr.sizes:List Tr->Nat
 | []=>0
 | k::ks=>k.size+Tr.sizes ks
end
mutual
def Tr.deep:Tr->Nat
 | .mk _ _ _ _ ks=>1+Tr.deeps ks
def Tr.deeps:List Tr->Nat
 | []=>0
 | k::ks=>max k.deep (Tr.deeps ks)
end
theorem Tr.size_eq(t:Tr):t.size=1+Tr.sizes t.kids:=by cases t;rw[Tr.size];rfl
theorem Tr.sizes_mem{l:List Tr}{t:Tr}(h:t∈l):t.size<=Tr.sizes l:=by
 induction l with
 | nil=>cases h
 | cons k ks ih =>
   rw[Tr.sizes];rcases jBa.1 h with rfl|h
   . omega
   . have:=ih h;omega
theorem Tr.size_kid{t k:Tr}(h:k∈t.kids):k.size<t.size:=by have:=Tr.sizes_mem h;rw[t.size_eq];omega
theorem Tr.size_pos(t:Tr):0<t.size:=by rw[t.size_eq];omega
section
variable{σ:Type}
end
theorem Sat.front{E w:World}{I:PH}{ns ps ms:List PH}(h:Sat E I (ns++(ps++ms)) w):Sat E I (ps++(ns++ms)) w:=by
 refine h.perm ?_;rw[<- jE,<- jE];exact jIb.append_right ms
def partE(t:Tr)(d n:Int):Int:=if 64<d then 17 else if t.wrong=0 then (if 4096<n then 4 else 0) else t.wrong
mutual
def Yk:Tr->Int->Int->Int×Int
 | .mk op var A cap ks,d,n=>if partE (.mk op var A cap ks) d (wrap64 (n+1))=0 then Xm ks (d+1) (wrap64 (n+1)) else (partE (.mk op var A cap ks) d (wrap64 (n+1)),wrap64 (n+1))
def Xm:List Tr->Int->Int->Int×Int
 | [],_,n=>(0,n)
 | k::ks,d,n=>if (Yk k d n).1=0 then Xm ks d (Yk k d n).2 else Yk k d n
end
theorem rchk_eq(t:Tr)(d n:Int):Yk t d n=if partE t d (wrap64 (n+1))=0 then Xm t.kids (d+1) (wrap64 (n+1)) else (partE t d (wrap64 (n+1)),wrap64 (n+1)):=by cases t;rw[Yk];rfl
theorem rchks_take(d:Int):∀(l:List Tr) (k:Nat) (t:Tr) (n:Int),l[k]?=some t->(Xm (l.take k) d n).1=0->Xm (l.take (k+1)) d n=Yk t d (Xm (l.take k) d n).2:=by
 intro l
 induction l with
 | nil=>intro k t n h;simp at h
 | cons u l ih =>
   intro k t n h hb;cases k with
   | zero =>
     simp at h
     subst h;simp only[List.take_zero,List.take_succ_cons,Xm];split
     . rename_i h0;rw[<- h0]
     . rfl
   | succ k =>
     simp only[zA] at h;simp only[List.take_succ_cons,Xm] at hb ⊢;by_cases hw:(Yk u d n).1=0
     . rw[jAb hw] at hb ⊢
       rw[jAb hw];exact ih k t _ h hb
     . rw[jAa hw] at hb
       exact absurd hb hw
theorem rchks_err(d:Int):∀(l:List Tr) (k:Nat) (n:Int),(Xm (l.take k) d n).1≠0->Xm l d n=Xm (l.take k) d n:=by
 intro l
 induction l with
 | nil=>intro k n h;simp
 | cons u l ih =>
   intro k n h;cases k with
   | zero=>simp[Xm] at h
   | succ k =>
     simp only[List.take_succ_cons,Xm] at h ⊢;by_cases hw:(Yk u d n).1=0
     . rw[jAb hw] at h ⊢
       rw[jAb hw];exact ih k _ h
     . rw[jAa hw,jAa hw]
def partP(op var:Int)(n:Nat)(d N:Int):Int:=if 64<d then 17 else if wrongP op var n=0 then (if 4096<N then 4 else 0) else wrongP op var n
theorem wrongP_ok{op var:Int}{n:Nat}(h:wrongP op var n=0):¬few op<0/\((op=3/\¬var<0/\¬64<=var)\/(¬op=3/\var=0))/\¬(n:Int)<few op/\¬many op<(n:Int):=by
 have hl:∀{x:Int},lenP op n=0->¬(n:Int)<few op/\¬many op<(n:Int):=λ{_} h=>by
  unfold lenP at h;split at h
  . omega
  . split at h
    . omega
    . exact⟨by assumption,by assumption⟩
 unfold wrongP at h;split at h
 . omega
 . rename_i h0
   refine⟨h0,?_⟩;split at h
   . rename_i h1
     split at h
     . omega
     . split at h
       . omega
       . exact⟨.inl ⟨h1,by assumption,by assumption⟩,hl (x:=0) h⟩
   . rename_i h1
     split at h
     . exact⟨.inr ⟨h1,by assumption⟩,hl (x:=0) h⟩
     . omega
theorem rcheck_bad(E:World)(I:PH)(ms:List PH)(op var:Int)(A:Option Addr)(l cap:Nat)(d n:Int)(w:World)(hd0:0<=d)(hS:Sat E I ms w)(h:partP op var l d (wrap64 (n+1))≠0) :
  Calls Tryz.prog 80 #[.agg #[.int .i64 op,.int .i64 var,.slice A l cap],.int .i64 d,.int .i64 n] w λe w'=>e=.returned (.tuple #[.int .i64 (partP op var l d (wrap64 (n+1))),.int .i64 (wrap64 (n+1))])/\Sat E I ms w':=by
 unfold partP at h ⊢;by_cases h1:64<d
 . rw[jAb h1]
   clear h;go_enter Tryz.func80,Tryz.ntmps80;go_wp2_with ( (refine aX ?_;clear hS;intro X w hS) )
   go_ret2;exact⟨rfl,hS.drop⟩
 rw[jAa h1] at h ⊢;by_cases h2:wrongP op var l=0
 . rw[jAb h2] at h ⊢
   obtain⟨a1,a2,a3,a4⟩:=wrongP_ok h2;clear h2;by_cases h3:4096<wrap64 (n+1)
   . rw[jAb h3]
     clear h;rcases a2 with⟨rfl,b1,b2⟩|⟨b1,rfl⟩
     all_goals
      go_enter Tryz.func80,Tryz.ntmps80;go_wp2_with (first|((with_reducible refine Qu ?_);((with_reducible refine Zs ?_);first|go_skip|((with_reducible refine Qy ?hw ?_);case hw=>(simp only[Region.wanted,yielded,zC,zA,zB,zK,jUa];done))|((refine' Ki (b:=_) ?hy ?_ ?_);(case hy=>(simp only[yielded,zC,zA,zB,zK];exact rfl));all_goals (intro hb;(try simp only[kC,jW] at hb);(try simp only[hb]);(try simp only[Act.put,zE,zF,zG]);first|((have hf:False:=by (simp at hb;omega));cases hf)|skip))))|(refine aL ?_)|(refine aX ?_;clear hS;intro X w hS)|(go_at_call 119;refine (rkids_any _ _).mono ?_;rintro e w ⟨rfl,rfl⟩))
      go_ret2;exact⟨rfl,hS.drop⟩
   . rw[jAa h3] at h;exact absurd rfl h
 . rw[jAa h2]
   clear h;unfold wrongP lenP at h2 ⊢
   repeat' split
   all_goals (try subst_vars)
   all_goals (try simp only[*,jEb,jOb,not_true_eq_false] at h2)
   all_goals (try clear h2)
   all_goals (try have d1:decide (var<0)=false:=by (simp;omega))
   all_goals (try have d2:decide (var≥64)=false:=by (simp;omega))
   all_goals
    go_enter Tryz.func80,Tryz.ntmps80;go_wp2_with (first|((with_reducible refine Qu ?_);((with_reducible refine Zs ?_);first|go_skip|((with_reducible refine Qy ?hw ?_);case hw=>(simp only[Region.wanted,yielded,zC,zA,zB,zK,jUa];done))|((refine' Ki (b:=_) ?hy ?_ ?_);(case hy=>(simp only[yielded,zC,zA,zB,zK];exact rfl));all_goals (intro hb;(try simp only[kC,jW] at hb);(try simp only[hb]);(try simp only[Act.put,zE,zF,zG]);first|((have hf:False:=by (simp at hb;omega));cases hf)|skip))))|(refine aL ?_)|(refine aX ?_;clear hS;intro X w hS)|(go_at_call 119;refine (rkids_any _ _).mono ?_;rintro e w ⟨rfl,rfl⟩))
    all_goals (go_ret2;exact⟨rfl,hS.drop⟩)
theorem rcheck_any(E:World)(I:PH)(ms:List PH):∀(m:Nat) (t:Tr) (d n:Int) (w:World),t.size<=m->In I t->0<=d->d<=65->Sat E I ms w ->
  Calls Tryz.prog 80 #[t.val,.int .i64 d,.int .i64 n] w λe w'=>e=.returned (.tuple #[.int .i64 (Yk t d n).1,.int .i64 (Yk t d n).2])/\Sat E I ms w':=by
 intro m
 induction m generalizing ms with
 | zero=>intro t d n w h;have:=t.size_pos;omega
 | succ m ih =>
   intro t d n w hsz hin hd0 hd1 hS;have IH:=yH ih;have Hin:=yH hin.at_;have Hlen:=hin.row.1;have Hsz:=yH (λk (hk:k∈t.kids)=>(show k.size<=m by have:=Tr.size_kid hk;omega));rw[rchk_eq];unfold Tr.val;clear ih hin hsz;by_cases hp0:partE t d (wrap64 (n+1))=0
   case neg=>rw[jAa hp0];exact rcheck_bad E I ms t.op t.var t.A t.kids.length t.cap d n w hd0 hS hp0
   rw[jAb hp0];have hp:partP t.op t.var t.kids.length d (wrap64 (n+1))=0:=hp0;clear hp0;obtain⟨op,var,A,cap,kids⟩:=t;simp only[Tr.op,Tr.var,Tr.A,Tr.kids,Tr.cap] at *
   unfold partP at hp;by_cases h1:64<d
   . rw[jAb h1] at hp;omega
   rw[jAa h1] at hp;by_cases h2:wrongP op var kids.length=0
   case neg=>rw[jAa h2] at hp;exact absurd hp h2
   rw[jAb h2] at hp;by_cases h3:4096<wrap64 (n+1)
   . rw[jAb h3] at hp;omega
   clear hp;obtain⟨a1,a2,a3,a4⟩:=wrongP_ok h2;clear h2;have hd4:d<=64:=by omega
   rcases a2 with⟨rfl,b1,b2⟩|⟨b1,rfl⟩
   all_goals
    go_enter Tryz.func80,Tryz.ntmps80;go_wp2_with (first|((with_reducible refine Qu ?_);((with_reducible refine Zs ?_);first|go_skip|((with_reducible refine Qy ?hw ?_);case hw=>(simp only[Region.wanted,yielded,zC,zA,zB,zK,jUa];done))|((refine' Ki (b:=_) ?hy ?_ ?_);(case hy=>(simp only[yielded,zC,zA,zB,zK];exact rfl));all_goals (intro hb;(try simp only[kC,jW] at hb);(try simp only[hb]);(try simp only[Act.put,zE,zF,zG]);first|((have hf:False:=by (simp at hb;omega));cases hf)|skip))))|(refine aL ?_)|(refine aX ?_;clear hS;intro X w hS)|(go_at_call 119;refine (rkids_any _ _).mono ?_;rintro e w ⟨rfl,rfl⟩))
    have HS0:=yH hS;clear hS;go_loopw [2,10] (λp i wr=>∃k:Nat,k<=kids.length/\i=.int .i64 k/\(Xm (kids.take k) (d+1) (wrap64 (n+1))).1=0/\p=.int .i64 (Xm (kids.take k) (d+1) (wrap64 (n+1))).2/\∃o v,Sat E I (PH.one X (.cells #[.int .i64 o,.int .i64 v,.slice A kids.length cap] 87)::ms) wr) (λ_ i _=>(kids.length-intOf i).toNat)
    case atStart=>exact⟨0,jC _,rfl,rfl,rfl,_,_,HS0.out⟩
    case round =>
     obtain⟨k,hk,rfl,hb,rfl,o,v,hS⟩:=hrel;clear HS0;by_cases hlt:k<kids.length
     . obtain⟨Y,off,rfl,hc⟩:=Hin.out (by omega)
       have hget:=yA hlt;have hmem:=jWb hlt;generalize kids[k]=kd at *
       obtain⟨hcell,hkin⟩:=hc k kd hget;have CK:=yH (λw' hS'=>IH.out (PH.one X (.cells #[.int .i64 o,.int .i64 v,.slice (some ⟨Y,off,none⟩) kids.length cap] 87)::ms) kd (d+1) (Xm (kids.take k) (d+1) (wrap64 (n+1))).2 w' (Hsz.out kd hmem) hkin (by omega) (by omega) hS');have Hstep:=yH (rchks_take (d+1) kids k kd (wrap64 (n+1)) hget hb);unfold Tr.cells at hcell;unfold Tr.val at CK;have k0:(0:Int)<=(k:Int):=by omega
       have k1:(k:Int)<(kids.length:Int):=by omega
       clear hget hc hmem hkin hb;by_cases hz:(Yk kd (d+1) (Xm (kids.take k) (d+1) (wrap64 (n+1))).2).1=0
       . rw[hz] at CK
         have Hz:=yH hz;clear hz;go_wp2_with (first|(refine aL ?_)|(go_at_call 80;refine (CK.out _ hS).mono ?_;clear hS;rintro e w ⟨rfl,hS⟩))
         exact⟨⟨k+1,hlt,by go_num,by rw[Hstep.out];exact Hz.out,by rw[Hstep.out],_,_,hS⟩,by simp[intOf];omega⟩
       . have He:=yH (show Xm kids (d+1) (wrap64 (n+1))=Yk kd (d+1) (Xm (kids.take k) (d+1) (wrap64 (n+1))).2 from (rchks_err (d+1) kids (k+1) _ (by rw[Hstep.out];exact hz)).trans Hstep.out)
         go_wp2_with (first|(refine aL ?_)|(go_at_call 80;refine (CK.out _ hS).mono ?_;clear hS;rintro e w ⟨rfl,hS⟩))
         go_ret2;exact⟨by rw[He.out];rfl,hS.drop⟩
     . obtain rfl:k=kids.length:=by omega
       have Hb:=yH hb;clear hb;go_wp2_with (first|(refine aL ?_))
       go_ret2;have hb:=Hb.out;rw[kDa] at hb;exact⟨by simp only[kDa];rw[<- hb];rfl,hS.drop⟩
def vOf(bl:List Bool)(op var:Int)(vs:List Bool):Bool :=
 if op=1 then true else if op=2 then false else if op=3 then (decide (var<(bl.length:Int))&&bl.getD var.toNat false)
 else if op=4 then !(vs.getD 0 false) else if op=8 then (!(vs.getD 0 false)||vs.getD 1 false) else if op=9 then (vs.getD 0 false==vs.getD 1 false)
 else if op=10 then (if vs.getD 0 false then vs.getD 1 false else vs.getD 2 false)
 else if op=5 then decide ((vs.count true:Int)=(vs.length:Int)) else if op=6 then decide (0<(vs.count true:Int)) else decide ((vs.count true:Int)%2=1)
mutual
def Tr.value(bl:List Bool):Tr->Bool
 | .mk op var _ _ ks=>vOf bl op var (Tr.values bl ks)
def Tr.values(bl:List Bool):List Tr->List Bool
 | []=>[]
 | k::ks=>k.value bl::Tr.values bl ks
end
theorem Tr.value_eq(bl:List Bool)(t:Tr):t.value bl=vOf bl t.op t.var (Tr.values bl t.kids):=by cases t;rw[Tr.value];rfl
theorem Tr.values_map(bl:List Bool)(l:List Tr):Tr.values bl l=l.map (Tr.value bl):=by
 induction l with
 | nil=>rw[Tr.values];rfl
 | cons k ks ih=>rw[Tr.values,ih];rfl
inductive Ok:Tr->Prop
 | mk {op var:Int} {A:Option Addr} {cap:Nat} {kids:List Tr}:wrongP op var kids.length=0->(∀t∈kids,Ok t)->Ok (.mk op var A cap kids)
theorem Ok.here{t:Tr}(h:Ok t):wrongP t.op t.var t.kids.length=0:=by cases h;assumption
theorem Ok.kid{t:Tr}(h:Ok t):∀k∈t.kids,Ok k:=by cases h;assumption
theorem wrap64_small{n:Int}(h:0<=n/\n<=100000):wrap64 n=n:=IntWalk.wrap64_in n (by omega)
mutual
theorem rchk_ok:∀(t:Tr) (d n:Int),0<=n->n<=4096->d<=65->(Yk t d n).1=0->Ok t/\d+t.deep<=65/\(Yk t d n).2=n+t.size/\n+t.size<=4096
 | .mk op var A cap ks,d,n,h0,h1,hd,h=>by
   rw[Yk] at h ⊢;have hw:wrap64 (n+1)=n+1:=wrap64_small ⟨by omega,by omega⟩;rw[hw] at h ⊢;by_cases hp:partE (.mk op var A cap ks) d (n+1)=0
   . rw[jAb hp] at h ⊢
     have hpp:partP op var ks.length d (n+1)=0:=hp;unfold partP at hpp;by_cases h64:64<d
     . rw[jAb h64] at hpp;omega
     rw[jAa h64] at hpp;by_cases hwr:wrongP op var ks.length=0
     . rw[jAb hwr] at hpp
       by_cases h4:4096<n+1
       . rw[jAb h4] at hpp;omega
       . obtain⟨a1,a2,a3,a4⟩:=rchks_ok ks (d+1) (n+1) (by omega) (by omega) (by omega) h
         rw[Tr.deep,Tr.size];refine⟨.mk hwr a1,?_,?_,?_⟩
         . omega
         . rw[a3];omega
         . omega
     . rw[jAa hwr] at hpp;exact absurd hpp hwr
   . rw[jAa hp] at h;exact absurd h hp
theorem rchks_ok:∀(l:List Tr) (d n:Int),0<=n->n<=4096->d<=65->(Xm l d n).1=0->(∀t∈l,Ok t)/\d+Tr.deeps l<=65/\(Xm l d n).2=n+Tr.sizes l/\n+Tr.sizes l<=4096
 | [],d,n,h0,h1,hd,_=>by
   rw[Xm,Tr.deeps,Tr.sizes];exact⟨by simp,by omega,by simp,by omega⟩
 | k::ks,d,n,h0,h1,hd,h=>by
   rw[Xm] at h ⊢;by_cases hk:(Yk k d n).1=0
   . rw[jAb hk] at h ⊢
     obtain⟨a1,a2,a3,a4⟩:=rchk_ok k d n h0 h1 hd hk;rw[a3] at h ⊢;obtain⟨b1,b2,b3,b4⟩:=rchks_ok ks d (n+k.size) (by omega) a4 hd h;rw[Tr.deeps,Tr.sizes];refine⟨λt ht=>?_,by omega,by rw[b3];omega,by omega⟩;rcases jBa.1 ht with rfl|ht
     . exact a1
     . exact b1 t ht
   . rw[jAa hk] at h;exact absurd h hk
end
theorem op_cases{op:Int}(h:¬few op<0):op=1\/op=2\/op=3\/op=4\/op=5\/op=6\/op=7\/op=8\/op=9\/op=10:=by
 unfold few at h
 repeat' split at h
 all_goals omega
theorem rCheck_any(E:World)(I:PH)(ms:List PH)(t:Tr)(w:World)(hin:In I t)(hS:Sat E I ms w) :
  Calls Tryz.prog 38 #[t.val] w λe w'=>e=.returned (.int .i64 (Yk t 1 0).1)/\Sat E I ms w':=by
 have CK:=yH (λ(ns:List PH) (w':World) (hS':Sat E I ns w')=>rcheck_any E I ns t.size t 1 0 w' (jBb _) hin (by omega) (by omega) hS');unfold Tr.val at *
 generalize (Yk t 1 0).1=x at *
 generalize (Yk t 1 0).2=y at *
 clear hin;go_enter Tryz.func38,Tryz.ntmps38;go_wp2_with (first|(refine aL ?_)|(refine aX ?_;clear hS;intro X w hS)|(go_at_call 80;((with_reducible refine yI (CK.out _ _ hS) ?_);clear hS;rintro e w ⟨rfl,hS⟩)))
 all_goals (go_ret;exact⟨rfl,hS.drop⟩)
end
end Go.Proofs.YtidamcdklgfogaaGreat
