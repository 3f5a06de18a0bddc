import Derived.Test.YtidamcdklgfogaaGreatUbg
set_option linter.unusedVariables false
set_option linter.unusedSimpArgs false
set_option maxRecDepth 100000
set_option maxHeartbeats 8000000
namespace Go.Proofs.YtidamcdklgfogaaGreat
section
open Go.RowKit
theorem lives_any(W:World):Calls Tryz.prog 7 #[] W λe w'=>e=.returned (.bool true)/\Below W.heap.size W w':=by
 obtain⟨m1,m2,m3,m4,x,y,f,g,q,L⟩:=G.lives_data;obtain⟨k1,k2,k3,k4,k5,k6⟩:=lv_rok L;have hS:=Sat.start W;have HNew:Hid (∀w:World,Sat W (Qa W) [] w->Calls Tryz.prog 26 #[.int .i64 2,.int .i64 400] w λe w'=>∃X p,e=.returned (.tuple #[vPt X,.int .i64 0])/\MgAt X (G.Mg.new 2 400) p/\Sat W (Qa W) [p] w'):=yH λw h=>ddnew_any 2 400 (by decide) (by decide) (by decide) h
 have HV0:Hid (∀(w:World) (D:Nat) (p:PH),MgAt D (G.Mg.new 2 400) p->Sat W (Qa W) [p] w->Calls Tryz.prog 27 #[vPt D,.int .i64 0] w λe w'=>e=.returned (.tuple #[nv x,.int .i64 0])/\∃p',MgAt D m1 p'/\Sat W (Qa W) [p'] w'):=yH λw D p hA h=>wvar_any (S:=G.S0) L.s0 (by decide) (by decide) (x:=0) (by decide) L.v0 hA h
 have HV1:Hid (∀(w:World) (D:Nat) (p:PH),MgAt D m1 p->Sat W (Qa W) [p] w->Calls Tryz.prog 27 #[vPt D,.int .i64 1] w λe w'=>e=.returned (.tuple #[nv y,.int .i64 0])/\∃p',MgAt D m2 p'/\Sat W (Qa W) [p'] w'):=yH λw D p hA h=>wvar_any (S:=G.S0) L.s1 (by have:=L.h1.1;omega) (by have:=L.h1.2;omega) (x:=1) (by decide) L.v1 hA h
 have HAnd:=yH (λ(w:World) (D XS:Nat) (p:PH) (hA:MgAt D m2 p) (h:Sat W (Qa W) (PH.one XS (.cells #[nv x,nv y] 3)::[p]) w)=>lv_and L hA h);have HRows:=yH (λ(w:World) (D XS:Nat) (p:PH) (hA:MgAt D m3 p) (h:Sat W (Qa W) (PH.one XS (.cells #[nv f] 3)::[p]) w)=>lv_rows L hA h);have HLd:=yH (λ(w:World) (D:Nat) (p mR mr:PH) (vR:Value) (A:Option Addr) (c:Nat) (o1:OwnP mR 62 3 vR q.rows.length (q.rows.flatMap rowC)) (o2:OwnP mr 3 1 (.slice A 1 c) 1 [nv 4]) (hA:MgAt D m3 p) (h:Sat W (Qa W) (p::mR::mr::[]) w)=>lv_load L o1 o2 hA h);have hl2:q.rows.length=2:=by rw[L.rows];rfl
 have HTx:Hid (∀(w:World) (mR mr:PH) (vR:Value) (A:Option Addr) (c:Nat),OwnP mR 62 3 vR q.rows.length (q.rows.flatMap rowC)->OwnP mr 3 1 (.slice A 1 c) 1 [nv 4]->mR.le (Qa w)->mr.le (Qa w)->Calls Tryz.prog 8 #[vR,.slice A 1 c] w λe w'=>e=.returned (.tuple #[.string ⟨#[49,32,49,32,48,10,48,32,49,32,50,10,114,111,111,116,115,32,52,10]⟩,.int .i64 0])/\Below w.heap.size w w'):=by
  refine yH λw mR mr vR A c o1 o2 h1 h2=>?_
  refine (dtext_any (rows:=q.rows) (roots:=[4]) ((OwnP.row3 o1).le h1).o ((OwnP.ints (l:=[4]) o2).le h2).ro (by rw[hl2];decide) (by simp) k1 (by simp)).mono ?_;rintro e w' ⟨⟨str,er,rfl,h3,h4⟩,h5⟩;have h3':lst str=textD q.rows [4]:=by rw[h3];unfold TextR;rw[jAb k2]
  rw[k6] at h3';obtain rfl:=lst_inj h3';rw[jAb k2] at h4;subst h4;exact⟨rfl,h5⟩
 have HSm:=yH (λ(w:World) (D:Nat) (hM:MgR (Qa w) D m4)=>msame_any (w:=w) (f:Int) (g:Int) hM);have hsm:m4.same (f:Int) (g:Int)=(true,(m4.same (f:Int) (g:Int)).2):=by rw[<- L.sm]
 have HEv:Hid (∀(w:World) (mR:PH) (vR:Value) (XB:Nat),OwnP mR 62 3 vR q.rows.length (q.rows.flatMap rowC)->mR.le (Qa w)->(PH.one XB (.cells #[.bool true,.bool true] 4)).le (Qa w)->Calls Tryz.prog 11 #[vR,.int .i64 4,.slice (some ⟨XB,0,none⟩) 2 2] w λe w'=>e=.returned (.tuple #[.bool true,.int .i64 0])/\Below w.heap.size w w'):=by
  refine yH λw mR vR XB o1 h1 h2=>?_
  refine (deval_any (rows:=q.rows) (env:=[true,true]) (e:=4) ((OwnP.row3 o1).le h1).o ⟨_,_,rfl,λ_=>⟨XB,0,rfl,λi b hi=>?_⟩⟩ (by rw[hl2];decide) (by decide) k1 (by decide) (by decide)).mono ?_
  . rw[jLb]
    refine PH.at_le h2 (Qb ?_)
    match i,hi with
    | 0,hi=>cases hi;rfl
    | 1,hi=>cases hi;rfl
    | i+2,hi=>simp at hi
  . rintro e w' ⟨rfl,h5⟩
    rw[jAb k2];exact⟨by rw[show ((4:Int).toNat)=4 from rfl,k5],h5⟩
 rw[hsm] at HSm;clear hsm k1 k2 k3 k4 k5 k6 hl2 L;generalize (m4.same (f:Int) (g:Int)).2=es at *
 go_enter Tryz.func7,Tryz.ntmps7;go_wp2_with (first
  | (go_at_call 26;(with_reducible refine yI (HNew.out _ hS) ?_);clear hS;rintro e w ⟨D,p0,rfl,hA,hS⟩;have HA0:=yH hA;clear hA)
  | (go_at_call 27;first|((with_reducible refine bD (HV0.out _ _ _ HA0.out hS) ?_);clear hS;intro w p1 HA1 hS)|((with_reducible refine bD (HV1.out _ _ _ HA1.out hS) ?_);clear hS;intro w p2 HA2 hS))
  | (go_at_call 28;(with_reducible refine bD (HAnd.out _ _ _ _ HA2.out hS) ?_);clear hS;intro w p3 HA3 hS)
  | (go_at_call 16;(with_reducible refine yI (HRows.out _ _ _ _ HA3.out hS) ?_);clear hS;rintro e w ⟨vR,A,c,rfl,p4,mR,mr,o1,o2,hA,hS⟩;obtain⟨Z,c2,hz,hz2⟩:=(OwnP.num (l:=[4]) o2).2 (by simp);injection hz with hz3 hz4 hz5;subst hz3;have HZ:=yH (hz2 0 4 rfl);clear hz2 hz4 hz5;have HA4:=yH hA;have HO1:=yH o1;have HO2:=yH o2;clear hA o1 o2)
  | (go_at_call 8;(with_reducible refine bB hS (HTx.out _ _ _ _ _ _ HO1.out HO2.out (hS.mle (k:=1) rfl) (hS.mle (k:=2) rfl)) ?_);clear hS;intro w2 hS)
  | (go_at_call 22;(with_reducible refine yI (HLd.out _ _ _ _ _ _ _ _ HO1.out HO2.out HA4.out hS) ?_);clear hS;rintro e w ⟨X,c',rfl,p5,mo,hx,hA,hS⟩;have HA5:=yH hA;have HX:=yH hx;clear hA hx)
  | ((with_reducible refine Qe ?_);first|(refine' Xx (v:=_) (.inr (List.Mem.tail _ (List.Mem.head _))) hS rfl rfl Qh rfl HX.out ?_)|(refine' Xx (v:=_) (.inr (List.Mem.tail _ (List.Mem.tail _ (List.Mem.tail _ (List.Mem.head _))))) hS rfl rfl Qh rfl HZ.out ?_);refine aM ?_)
  | (go_at_call 29;with_reducible refine bC (HSm.out _ _ (HA5.out.read.le (hS.mle (k:=0) rfl))) ?_)
  | (go_at_call 11;(with_reducible refine bB hS (HEv.out _ _ _ _ HO1.out (hS.mle (k:=3) rfl) (hS.mle (k:=0) rfl)) ?_);clear hS;intro w2 hS)
  | (refine aN 44 ?_;clear hS;intro XS w hS)|(refine aN 51 ?_;clear hS;intro XT w hS)|(refine aN 103 ?_;clear hS;intro XB w hS)|(refine aG ?_))
 go_ret;exact⟨rfl,(hS.sub (List.nil_sublist _)).end_ (PH.le.refl _)⟩
end
namespace G
variable{S:Sem} {n:Nat} {m:Mg}
theorem fn_ofS(m:Mg)(k:Int):(m.fn k).isSome=(m.of k).isSome:=by unfold Mg.fn;rw[Option.isSome_map]
theorem rows_any(hs:Sd S n m)(hb:m.hs.length<1000000)(hw:m.waits.length<1000000)(hroom:m.hs.length*2^(n+1)<=m.s.pl.room)(l:List Int) :
  ∃m' x,m.rowsM l=some (m',x)/\Sd S n m'/\m'.fn=m.fn/\m'.hs=m.hs/\m'.s.pl.room=m.s.pl.room/\(∀φs:List Fn,l.map m.fn=φs.map some->∃q,x=.inl q)/\((∃k∈l,m.fn k=none)->x=.inr 8):=by
 have hfu:fuel=2097152:=rfl;by_cases hk:∃k∈l,m.fn k=none
 . obtain⟨m',x,r,hx,h1,h2,h3,h4,h5,_⟩:=hs.run (K:=0) (R:=λ_ x=>x=.inr 8) (by omega) (λm' a b d=>by
     rw[<- d];exact rowsE_bad l m' rs0 [] a (mean0 a.ok) (by rw[b];exact hk)) fuel false m rfl rfl (by simp) (by omega) (by rw[hfu];simp;omega)
   refine⟨m',x,r,by rw[show Sd S n m'=Snd S n m'.next m' from rfl,h4];exact h1,h2,h3,h5,λφs hφ=>?_,λ_=>hx⟩;obtain⟨k,hkl,hkn⟩:=hk
   have:(m.fn k)∈l.map m.fn:=jWa hkl;rw[hφ,hkn] at this;obtain⟨φ,_,h⟩:=jF.1 this;cases h
 . have hall:∀k∈l,∃φ,m.fn k=some φ:=λk hkl=>by
     cases hc:m.fn k with
     | none=>exact absurd ⟨k,hkl,hc⟩ hk
     | some φ=>exact⟨φ,rfl⟩
   obtain⟨φs,hφs⟩:∃φs:List Fn,l.map m.fn=φs.map some:=by
    clear hk hroom hw hb
    induction l with
    | nil=>exact⟨[],rfl⟩
    | cons a l ih =>
      obtain⟨φ,h⟩:=hall a (.head _);obtain⟨φs,h2⟩:=ih λk hk=>hall k (.tail _ hk)
      exact⟨φ::φs,by rw[jDb,jDb,h,h2]⟩
   obtain⟨m',x,r,hx,h1,h2,h3,h4,h5,_⟩:=hs.run (K:=0) (R:=Listed n φs rs0.rows [] []) (by omega) (λm' a b d=>by
    rw[<- d];exact rowsE_ok l φs m' rs0 [] [] a (by rw[b];exact hφs) (mean0 a.ok) (seen0 a.ok)) fuel false m rfl rfl (by simp) (by omega) (by rw[hfu];simp;omega)
   refine⟨m',x,r,by rw[show Sd S n m'=Snd S n m'.next m' from rfl,h4];exact h1,h2,h3,h5,λ_ _=>?_,λhk'=>absurd hk' hk⟩;cases x with
   | inl q=>exact⟨q,rfl⟩
   | inr e=>exact hx.elim
theorem Ready.small{es:List Ex}{plan:List Ev}{l:List Nat}(h:Ready S n (4*2^(2*n)+192*2^n) es plan m l)(h5:es.length<=5)(hp:plan.length<=6):m.hs.length<=7/\m.waits.length<=6/\m.hs.length*2^(n+1)+2^n<=m.s.pl.room:=by
 have h1:=h.len;have h2:=h.lk;have p3:2^(n+1)=2^n*2:=Nat.pow_succ 2 n;refine⟨by omega,by rw[h.waits];exact hp,?_⟩;rw[h.room,p3]
 have:m.hs.length*(2^n*2)<=7*(2^n*2):=jSb _ (by omega);omega
theorem refuse_data{es:List Ex}{plan:List Ev}{l:List Nat}(h:Ready S n (4*2^(2*n)+192*2^n) es plan m l)(h5:es.length<=5)(hp:plan.length<=6)(f:Int) :
  ∃m' x,m.rowsM [1,f]=some (m',x)/\Sd S n m'/\m'.of f=m.of f/\((m.of f).isSome=true->∃q,x=.inl q)/\((m.of f).isSome=false->x=.inr 8):=by
 obtain⟨a1,a2,a3⟩:=h.small h5 hp;obtain⟨m',x,r,h1,h2,h3,h4,hg,hb⟩:=rows_any h.ok (by omega) (by omega) (jFb (Nat.le_add_right _ _) a3) [1,f];refine⟨m',x,r,h1,by unfold Mg.of;rw[h3],λhv=>?_,λhv=>hb ⟨f,by simp,?_⟩⟩
 . rw[<- fn_ofS] at hv
   obtain⟨φ,hφ⟩:=yF.1 hv;exact hg [λ_=>true,φ] (by rw[jDb,jDb,jZ,h.ok.c01.2,hφ];rfl)
 . rw[<- fn_ofS] at hv
   simpa using hv
end G
section
open Go.RowKit
section
variable{E w:World} {I:PH} {ms:List PH}
theorem look_nil(v:Value)(w:World):Calls Tryz.prog 46 #[.pointer none,v] w λe w'=>e=.returned (.int .i64 5)/\w'=w:=by
 go_enter Tryz.func46,Tryz.ntmps46;go_wp2
 go_ret;exact⟨rfl,rfl⟩
theorem rows_nil(v:Value)(hS:Sat E I ms w):Calls Tryz.prog 16 #[.pointer none,v] w λe w'=>e=.returned (.tuple #[.slice none 0 0,.slice none 0 0,.int .i64 5])/\Sat E I ms w':=by
 have hmf:∀(fn:Fn) (first cap:Array Value) (w:World),(Instr.makeFunc fn first cap).run Tryz.prog w=.ok (.func fn first cap) w:=λ_ _ _ _=>rfl
 go_enter Tryz.func16,Tryz.ntmps16;go_wp2_with (first
  | (go_at_call 46;(with_reducible refine yI (look_nil _ _) ?_);rintro e w2 ⟨rfl,rfl⟩)
  | ((with_reducible refine Qu ?_);first|((with_reducible refine isBoxD 3 ?_);refine bx hS rfl rfl rfl ?_;clear hS;intro X3 w hS;(try simp only[Act.eval,zD,zC,zA,zB,zJ,Value.cells] at hS);(try simp only[Act.put,zE,zF,zG]))|((with_reducible refine Xi 7 ?_);(refine' al (z:=_) hS rfl rfl ?ha ?_);(case ha =>  exact ty_z22);clear hS;intro X7 w hS;(try simp only[Value.cells] at hS);(try simp only[Act.put,zE,zF,zG]))|((with_reducible refine Xi 8 ?_);(refine' al (z:=_) hS rfl rfl ?ha ?_);(case ha =>  exact ty_z23 );clear hS;intro X8 w hS;(try simp only[Value.cells] at hS);(try simp only[Act.put,zE,zF,zG])) ))
 go_ret3;exact⟨rfl,hS.drop.drop.drop⟩
theorem load_nil(v u:Value)(hS:Sat E I ms w):Calls Tryz.prog 22 #[.pointer none,v,u] w λe w'=>e=.returned (.tuple #[.slice none 0 0,.int .i64 5])/\Sat E I ms w':=by
 go_enter Tryz.func22,Tryz.ntmps22;go_wp2_with (first|(refine aN 4 ?_;clear hS;intro X4 w hS))
 go_ret2;exact⟨rfl,hS.drop⟩
end
theorem IntR.lit2{p:PH}{X:Nat}{e:TypeId}{a b:Int}(h:p X=some (.cells #[.int .i64 a,.int .i64 b] e (0,0))):IntR p (.slice (some ⟨X,0,none⟩) 2 2) [a,b]:=by
 refine⟨⟨_,_,rfl⟩,λ_=>⟨X,2,rfl,λi x hx=>?_⟩⟩;unfold PH.at
 rw[h]
 match i,hx with
 | 0,hx=>cases hx;rfl
 | 1,hx=>cases hx;rfl
 | i+2,hx=>simp at hx
theorem hS0:∀φ ψ χ,G.S0 1 φ ψ χ=G.iteF φ ψ χ:=λ_ _ _=>rfl
theorem drefuses_any{W:World}{vars f:Int}{order:List Int}{ts:List Tr}{evs:List G.Ev}{vo ve vp:Value}{A:Option Addr}{N c:Nat}(hA:AskIn (Qa W) vo ve vp order ts evs) :
  Calls Tryz.prog 5 #[.agg #[.int .i64 vars,vo,ve,vp],.int .i64 f,.slice A N c] W λe w'=>e=.returned (.bool true)/\Below W.heap.size W w':=by
 have HLv:=yH lives_any;have hS:=Sat.start W;by_cases hsm:∃n:Nat,vars=n/\SmallOk n order ts evs
 . obtain⟨n,rfl,hok⟩:=hsm
   have HSm:=yH (λ(w:World) (ms:List PH) (hS:Sat W (Qa W) ms w)=>small_any (vars:=n) hA hS);have HSt:=yH (λ(w:World) (ms:List PH) (hS:Sat W (Qa W) ms w)=>setup_any hS0 hok hA hS);have HDt:=yH (λ(m:G.Mg) (l:List Nat) (h:G.Ready G.S0 n (Zp n) (Tr.exs ts) evs m l)=>show (∃m' x,m.rowsM [1,f]=some (m',x)/\G.Sd G.S0 n m'/\m'.of f=m.of f/\((((rowsOut x).2.2:Nat):Int)==8)=!(m.of f).isSome)/\G.Sd G.S0 n m/\m.hs.length<1152921504606846976/\m.s.pl.room<=900000 from by
    obtain⟨m',x,r1,r2,r3,r4,r5⟩:=G.refuse_data h (by rw[Tr.exs_len];exact hok.ts5) hok.ev6 f;refine⟨⟨m',x,r1,r2,r3,?_⟩,h.ok,?_,?_⟩
    . cases hv:(m.of f).isSome with
      | true =>
        obtain⟨⟨q,r⟩,rfl⟩:=r4 hv;unfold rowsOut;simp only;split <;> rfl
      | false =>
        rw[r5 hv];rfl
    . have:=h.len
      have:=h.lk
      have:=hok.ts5;rw[Tr.exs_len] at *
      omega
    . rw[h.room];exact (roomOf_le hok.n6).2)
   obtain⟨A2,c2,rfl,_⟩:=id hA.e;obtain⟨⟨A3,c3,rfl⟩,_⟩:=id hA.p;obtain⟨A1,c1,rfl,_⟩:=id hA.o;clear hok hA;go_enter Tryz.func5,Tryz.ntmps5;go_wp2_with (first
    | (go_at_call 13;(with_reducible refine yI (HSm.out _ _ hS) ?_);clear hS;rintro e w ⟨⟨b,rfl,_⟩,hS⟩)
    | (go_at_call 7;(with_reducible refine bB hS (HLv.out _) ?_);clear hS;intro w2 hS)
    | (go_at_call 14;(with_reducible refine yI (HSt.out _ _ hS) ?_);clear hS;rintro e w ⟨D,m,p,l,J,vl,vx,rfl,hR,_,hJ,_,_,hM,hS⟩;obtain⟨⟨m',x,r1,r2,r3,r4⟩,r5,r6,r7⟩:=HDt.out m l hR;have HRw:=yH (λ(w:World) (K:PH) (ms:List PH) (vl:Value) (hv:IntR K vl [1,f]) (hS:Sat W K (p::ms) w)=>wrows_any r5 r6 r7 (by simp) hv r1 hM hS);have HJ:=yH hJ;rw[<- r3] at r4;have HOf:=yH r3;clear hR hJ hM r1 r2 r3 r5 r6 r7)
    | (refine aN 3 ?_;clear hS;intro X3 w hS)|(refine aN 39 ?_;clear hS;intro XA w hS)|(refine aG ?_)|(refine aL ?_))
   all_goals first|(go_ret;exact⟨rfl,(hS.sub (List.nil_sublist _)).end_ (PH.le.refl _)⟩)|skip
   refine (rows_nil _ hS).mono ?_;clear hS;rintro e w ⟨rfl,hS⟩;go_wp2_with (first
    | (go_at_call 22;(with_reducible refine yI (load_nil _ _ hS) ?_);clear hS;rintro e w ⟨rfl,hS⟩)
    | (refine aN 52 ?_;clear hS;intro XB w hS))
   obtain⟨J2,a1,b1,hS2,_⟩:=hS.ice;refine (HRw.out _ J2 _ _ (IntR.lit2 (b1 _ _ (PH.one_self _ _))) hS2.sw).mono ?_;clear hS hS2;rintro e w ⟨p',ns,⟨vR,vr,mR,mr,rfl,rfl,_,_⟩,hM,hS⟩;have HIs:=yH (λ(w:World) (h:p'.le (Qa w))=>mIs_any (hM.read.le h) f);have HA1:=yH a1;clear hM HRw HOf HDt a1 b1;generalize (rowsOut x).2.2=er at *
   generalize (m'.of f).isSome=iv at *
   rcases iv with _|_
   all_goals
    have r5:(((er:Nat):Int)==8)=_:=r4;simp only[jW,kC] at r5;clear r4;go_wp2_with (first
     | (go_at_call 23;with_reducible refine bC (HIs.out _ (hS.mle (k:=0) rfl)) ?_)
     | (go_at_call 7;(with_reducible refine bB hS (HLv.out _) ?_);clear hS;intro w2 hS)
     | (refine aG ?_))
    go_ret;exact⟨rfl,(hS.sub (List.nil_sublist _)).end_ (PH.le.trans HJ.out HA1.out)⟩
 . have HSm:Hid (∀(w:World) (ms:List PH),Sat W (Qa W) ms w->Calls Tryz.prog 13 #[.agg #[.int .i64 vars,vo,ve,vp]] w λe w'=>e=.returned (.bool false)/\Sat W (Qa W) ms w'):=yH λw ms hS=>(small_any (vars:=vars) hA hS).mono (by
     rintro e w' ⟨⟨b,rfl,hb⟩,hS⟩;cases b with
     | true=>exact absurd (hb rfl) hsm
     | false=>exact⟨rfl,hS⟩)
   obtain⟨A2,c2,rfl,_⟩:=id hA.e;obtain⟨⟨A3,c3,rfl⟩,_⟩:=id hA.p;obtain⟨A1,c1,rfl,_⟩:=id hA.o;clear hA hsm;go_enter Tryz.func5,Tryz.ntmps5;go_wp2_with (first
    | (go_at_call 13;(with_reducible refine yI (HSm.out _ _ hS) ?_);clear hS;rintro e w ⟨rfl,hS⟩)
    | (go_at_call 7;(with_reducible refine bB hS (HLv.out _) ?_);clear hS;intro w2 hS)
    | (refine aL ?_)|(refine aX ?_;clear hS;intro X w hS))
   go_ret;exact⟨rfl,(hS.sub (List.nil_sublist _)).end_ (PH.le.refl _)⟩
end
section
open Go.RowKit
end
section
open Go.ChangeShapes Go.WideShapes Go.ChangeAt Go.RowKit
theorem heap_cell{W:World}{b o:Nat}{v:Value}(h:W.cell? ⟨b,o,none⟩=some v):(Qa W).at b o=some v:=by
 unfold World.cell? at h;unfold PH.at Qa;cases hw:W.heap[b]? with
 | none=>rw[hw] at h;cases h
 | some ob =>
   rw[hw] at h;cases ob <;> first|(cases h)|(simpa using h)
section
variable{H:Type} {enc:TypeId×Value->H} {W:World} {base b0:Nat} {sp:Nat->Bool} {held:Bool} {r:Reach}
theorem r3_ca:Tryz.prog.cellsOf 62=3:=by kernel_rfl
theorem trod_r3{n:Nat}{cs:List Value}{y:DataW H×List MemPlace}(h:DataW.trod enc Tryz.prog W base sp held n 62 cs=some y):∃a:G.Rw3,cs=rowC a/\RowFit a:=by
 obtain⟨xs,m,rfl,rfl,hl,hxl,hfs⟩:=DataW.trod_struct Tryz.underlying62 h;rw[r3_ca] at hl
 match cs,hl with
 | [a0,a1,a2],_ =>
 have hx3:xs.length=3:=by rw[hxl];rfl
 match xs,hx3 with
 | [x0,x1,x2],_ =>
 have f0:=hfs 0 _ rfl;have f1:=hfs 1 _ rfl;have f2:=hfs 2 _ rfl;simp only[zB,zA] at f0 f1 f2;obtain⟨i0,h0,_,w0⟩:=DataW.trod_int Tryz.underlying3 f0;obtain⟨i1,h1,_,w1⟩:=DataW.trod_int Tryz.underlying3 f1;obtain⟨i2,h2,_,w2⟩:=DataW.trod_int Tryz.underlying3 f2;injection h0 with h0
 injection h1 with h1
 injection h2 with h2
 subst h0 h1 h2;have w0:=wf_i64 w0;have w1:=wf_i64 w1;have w2:=wf_i64 w2;exact⟨⟨i0,i1,i2⟩,rfl,⟨w0.1,Int.lt_of_le_of_lt w0.2 (by decide)⟩,⟨w1.1,Int.lt_of_le_of_lt w1.2 (by decide)⟩,⟨w2.1,Int.lt_of_le_of_lt w2.2 (by decide)⟩⟩
theorem open_rows3{v:Value}{d:DataW H}{p:List MemPlace}(hv:Value.okWide Tryz.prog W r b0 22 v)(h:DataW.Trod enc Tryz.prog W base sp held 22 v d p) :
  ∃(A:Option Addr) (c:Nat) (l:List G.Rw3),v=.slice A l.length c/\l.length<=c/\c<=maxLen/\(∀x∈l,RowFit x)/\(0<l.length->∃X o,A=some ⟨X,o,none⟩/\∀(i:Nat) x,l[i]?=some x->Cells (Qa W) X (o+i*3) (rowC x)):=by
 obtain⟨A,c,rows,rfl,h1,h2,h3,h4⟩:=rl_open Tryz.underlying22 r3_ca (by omega) hv h;obtain⟨l,rfl,hl⟩:=rows_map (f:=rowC) (Q:=RowFit) (rows:=rows) (λrow hr=>by
  obtain⟨_,n,y,hy⟩:=h4 row hr;exact trod_r3 hy)
 have hf:(l.map rowC).flatten=l.flatMap rowC:=by rw[List.flatMap_def]
 rw[hf] at h3;simp only[jHb] at h1 h3 h2;refine⟨A,c,l,by simp,h1,h2,hl,λhn=>?_⟩;obtain⟨b,o,e,hb,hc⟩:=h3.2 hn;refine⟨b,o,e,λi x hx k v hk=>?_⟩;have hi:=(yE.1 hx).1;have hk3:k<3:=(yE.1 hk).1;have h5:(l.flatMap rowC)[i*3+k]?=some v:=by
  have h6:=(flat_split rowC_len l i).2;rw[<- kHa,h6,jL hi];have h7:l[i]=x:=by
   have:=yA hi;rw[hx] at this;injection this with this
   exact this.symm
  rw[h7,jMb,jHa (by rw[rowC_len];exact hk3)];exact hk
 have h8:=hc (i*3+k) (by omega);rw[h5] at h8;rw[kYb];exact heap_cell h8
end
end
section
open Go.ChangeShapes Go.WideShapes Go.ChangeAt Go.RowKit
theorem at_of_cell0{W:World}{p:PH}{X off:Nat}{v:Value}(hp:∀o,W.heap[X]?=some o->p X=some o)(hc:W.cell? ⟨X,off,none⟩=some v):p.at X off=some v:=by
 unfold World.cell? at hc;unfold PH.at
 cases hw:W.heap[X]? with
 | none=>rw[hw] at hc;cases hc
 | some o =>
   rw[hp o hw];rw[hw] at hc;cases o <;> first|(cases hc)|(simpa using hc)
section
variable{H:Type} {enc:TypeId×Value->H} {W:World} {base b0:Nat} {sp:Nat->Bool} {held:Bool} {r:Reach}
theorem ec1:Tryz.prog.cellsOf 3=1:=by kernel_rfl
theorem ec3:Tryz.prog.cellsOf 87=3:=by kernel_rfl
theorem ece:Tryz.prog.cellsOf 85=3:=by kernel_rfl
theorem eca:Tryz.prog.cellsOf 38=4:=by kernel_rfl
theorem slice_open{α:Type}[Inhabited α]{T El:TypeId}{size fuel:Nat}{f:α->List Value}{Q:α->Prop}(hu:Tryz.prog.underlying T=some (.slice El))(hc:Tryz.prog.cellsOf El=size)(hs:0<size)(hlen:∀a,(f a).length=size)
  (hel:∀(fuel':Nat) cs (y:DataW H×List MemPlace),DataW.trod enc Tryz.prog W base sp held fuel' El cs=some y->∃a:α,cs=f a/\Q a){v:Value}{x:DataW H×List MemPlace}(h:DataW.trod enc Tryz.prog W base sp held fuel T [v]=some x) :
  ∃(A:Option Addr) (c:Nat) (l:List α),v=.slice A l.length c/\l.length<=c/\c<=maxLen/\(∀a∈l,Q a)/\(0<l.length->∃X off,A=some ⟨X,off,none⟩/\∀(i:Nat) a,l[i]?=some a->Cells (Qa W) X (off+i*size) (f a)):=by
 rcases DataW.trod_slice hu h with⟨h2,_⟩|⟨a,len,cap,elems,rest,n',rfl,h2,_,_,hlc,hcm,hel2,hin,_,_⟩
 . injection h2 with h2
   subst h2;exact⟨none,0,[],rfl,jBb _,jC _,λa h=>by (cases h),λh=>by (simp at h)⟩
 . injection h2 with h2
   subst h2;rw[hc] at hin;have hex:∀i,∃t:α,i<len->W.cells? base (a.add (i*size)) size=some (f t)/\Q t:=λi=>by
    by_cases hi:i<len
    . have h3:=hin i hi
      rw[yA (by omega)] at h3;obtain⟨cs',h4,h5⟩:=Option.bind_eq_some_iff.1 h3;obtain⟨t,rfl,ht⟩:=hel _ _ _ h5;exact⟨t,λ_=>⟨h4,ht⟩⟩
    . exact⟨default,λh=>absurd h hi⟩
   obtain⟨F,hF⟩:=Classical.axiomOfChoice hex;refine⟨some a,cap,(List.range len).map F,by simp,by simpa using hlc,hcm,λt ht=>?_,λhl=>?_⟩
   . obtain⟨i,hi,rfl⟩:=jF.1 ht
     exact (hF i (jVb.1 hi)).2
   . have hln:0<len:=by simpa using hl
     obtain⟨b,o,spot⟩:=a;have hspot:spot=none:=by
      obtain⟨_,_,h3⟩:=World.cells?_some (hF 0 hln).1;have h4:=h3 0 hs;have h5:∃u,(f (F 0))[0]?=some u:=⟨_,yA (by rw[hlen];exact hs)⟩;obtain⟨u,h5⟩:=h5;rw[h5] at h4
      simpa[Addr.add] using World.cell?_spot h4
     subst hspot;refine⟨b,o,rfl,λk t hk j v hj=>?_⟩;have hkl:k<len:=by
      have:=(yE.1 hk).1
      simpa using this
     have ht:F k=t:=by
      rw[jO,kKa hkl] at hk
      simpa using hk
     subst ht;obtain⟨_,_,h3⟩:=World.cells?_some (hF k hkl).1;have hj3:j<size:=by rw[<- hlen (F k)];exact (yE.1 hj).1
     have h4:=h3 j hj3;rw[hj,add_of_add] at h4;have hadd:(⟨b,o,none⟩:Addr).add (k*size+j)=⟨b,o+k*size+j,none⟩:=by
      unfold Addr.add;split
      . rename_i h0;rw[show o+k*size+j=o by omega]
      . simp;omega
     rw[hadd] at h4;exact at_of_cell0 (λo ho=>ho) h4
theorem trod_expr:∀(m fuel:Nat) (cs:List Value) (x:DataW H×List MemPlace),fuel<=m->DataW.trod enc Tryz.prog W base sp held fuel 87 cs=some x->∃t:Tr,cs=t.cells/\In (Qa W) t:=by
 intro m
 induction m with
 | zero =>
   intro fuel cs x hf h;obtain rfl:fuel=0:=by omega
   simp[DataW.trod] at h
 | succ m ih =>
   intro fuel cs x hf h;obtain⟨xs,n,rfl,rfl,hl,hxl,hfs⟩:=DataW.trod_struct Tryz.underlying87 h;rw[ec3] at hl
   match cs,hl with
   | [c0,c1,c2],_ =>
   have hx3:xs.length=3:=by rw[hxl];rfl
   match xs,hx3 with
   | [x0,x1,x2],_ =>
   have f0:=hfs 0 _ rfl;have f1:=hfs 1 _ rfl;have f2:=hfs 2 _ rfl;simp only[zB,zA] at f0 f1 f2;obtain⟨op,h0,_,_⟩:=DataW.trod_int Tryz.underlying3 f0;obtain⟨var,h1,_,_⟩:=DataW.trod_int Tryz.underlying3 f1;injection h0 with h0
   injection h1 with h1
   subst h0;subst h1;rcases DataW.trod_slice Tryz.underlying35 f2 with⟨h2,_⟩|⟨a,len,cap,elems,rest,n',rfl,h2,_,_,hlc,hcm,hel,hin,_,_⟩
   . injection h2 with h2
     subst h2;exact⟨.mk op var none 0 [],rfl,.mk ⟨by simp,λh=>by simp at h⟩ (λt h=>by cases h)⟩
   . injection h2 with h2
     subst h2;rw[ec3] at hin;have hex:∀i,∃t:Tr,i<len->W.cells? base (a.add (i*3)) 3=some t.cells/\In (Qa W) t:=λi=>by
      by_cases hi:i<len
      . have h3:=hin i hi
        rw[yA (by omega)] at h3;obtain⟨cs',h4,h5⟩:=Option.bind_eq_some_iff.1 h3;obtain⟨t,rfl,ht⟩:=ih n' cs' _ (by omega) h5;exact⟨t,λ_=>⟨h4,ht⟩⟩
      . exact⟨.mk 0 0 none 0 [],λh=>absurd h hi⟩
     obtain⟨f,hf'⟩:=Classical.axiomOfChoice hex;refine⟨.mk op var (some a) cap ((List.range len).map f),by simp[Tr.cells,Tr.op,Tr.var,Tr.A,Tr.kids,Tr.cap],.mk ⟨by simp;unfold maxLen at hcm;omega,λhl=>?_⟩ (λt ht=>?_)⟩
     . have hlen:0<len:=by simpa using hl
       obtain⟨b,o,spot⟩:=a;have hspot:spot=none:=by
        obtain⟨_,_,h3⟩:=World.cells?_some (hf' 0 hlen).1;have h4:=h3 0 (by omega);have h5:(f 0).cells[0]?=some (.int .i64 (f 0).op):=rfl;rw[h5] at h4
        simpa[Addr.add] using World.cell?_spot h4
       subst hspot;refine⟨b,o,rfl,λk t hk j v hj=>?_⟩;have hkl:k<len:=by
        have:=(yE.1 hk).1
        simpa using this
       have ht:f k=t:=by
        rw[jO,kKa hkl] at hk
        simpa using hk
       subst ht;obtain⟨_,_,h3⟩:=World.cells?_some (hf' k hkl).1;have hj3:j<3:=(yE.1 hj).1;have h4:=h3 j hj3;rw[hj,add_of_add] at h4;have hadd:(⟨b,o,none⟩:Addr).add (k*3+j)=⟨b,o+k*3+j,none⟩:=by
        unfold Addr.add;split
        . rename_i h0;rw[show o+k*3+j=o by omega]
        . simp;omega
       rw[hadd] at h4;exact at_of_cell0 (λo ho=>ho) h4
     . obtain⟨i,hi,rfl⟩:=jF.1 ht
       exact (hf' i (jVb.1 hi)).2
theorem trod_event{fuel:Nat}{cs:List Value}{y:DataW H×List MemPlace}(h:DataW.trod enc Tryz.prog W base sp held fuel 85 cs=some y):∃a:G.Ev,cs=gevC a/\True:=by
 obtain⟨xs,m,rfl,rfl,hl,hxl,hfs⟩:=DataW.trod_struct Tryz.underlying85 h;rw[ece] at hl
 match cs,hl with
 | [a0,a1,a2],_ =>
 have hx3:xs.length=3:=by rw[hxl];rfl
 match xs,hx3 with
 | [x0,x1,x2],_ =>
 have f0:=hfs 0 _ rfl;have f1:=hfs 1 _ rfl;have f2:=hfs 2 _ rfl;simp only[zB,zA] at f0 f1 f2;obtain⟨i0,h0,_,_⟩:=DataW.trod_int Tryz.underlying3 f0;obtain⟨i1,h1,_,_⟩:=DataW.trod_int Tryz.underlying3 f1;obtain⟨i2,h2,_,_⟩:=DataW.trod_int Tryz.underlying3 f2;injection h0 with h0
 injection h1 with h1
 injection h2 with h2
 subst h0 h1 h2;exact⟨⟨i0,i1,i2⟩,rfl,trivial⟩
instance:Inhabited Tr:=⟨.mk 0 0 none 0 []⟩
instance:Inhabited G.Ev:=⟨⟨0,0,0⟩⟩
theorem open_ask{v:Value}{d:DataW H}{p:List MemPlace}(hv:Value.okWide Tryz.prog W r b0 38 v)(h:DataW.Trod enc Tryz.prog W base sp held 38 v d p) :
  ∃(vars:Int) (vo ve vp:Value) (order:List Int) (ts:List Tr) (evs:List G.Ev),v=.agg #[.int .i64 vars,vo,ve,vp]/\AskIn (Qa W) vo ve vp order ts evs:=by
 obtain⟨cs,rfl,_⟩:=okWide_struct Tryz.underlying38 hv;obtain⟨fuel,hf⟩:=h;obtain⟨xs,m,hm,hd,hl,hxl,hfs⟩:=DataW.trod_struct Tryz.underlying38 hf;rw[eca] at hl;have hl:cs.toList.length=4:=hl;obtain⟨L,rfl⟩:∃L:List Value,cs=L.toArray:=⟨cs.toList,rfl⟩
 match L,hl with
 | [a0,a1,a2,a3],_ =>
 have hx4:xs.length=4:=by rw[hxl];rfl
 match xs,hx4 with
 | [x0,x1,x2,x3],_ =>
 have f0:=hfs 0 _ rfl;have f1:=hfs 1 _ rfl;have f2:=hfs 2 _ rfl;have f3:=hfs 3 _ rfl;simp only[Value.cells,zB,zA] at f0 f1 f2 f3;obtain⟨i0,h0,_,_⟩:=DataW.trod_int Tryz.underlying3 f0;injection h0 with h0
 subst h0;obtain⟨A1,c1,order,rfl,g1,m1,_,k1⟩:=slice_open (f:=λx:Int=>[Value.int .i64 x]) (Q:=λ_=>True) Tryz.underlying23 ec1 (by decide) (λ_=>rfl) (λfuel' cs y hy=>by
  obtain⟨i,h,_,_⟩:=DataW.trod_int Tryz.underlying3 hy;exact⟨i,h,trivial⟩) f1
 obtain⟨A2,c2,ts,rfl,g2,m2,q2,k2⟩:=slice_open (f:=Tr.cells) (Q:=In (Qa W)) Tryz.underlying35 ec3 (by decide) (λ_=>rfl) (λfuel' cs y hy=>trod_expr fuel' fuel' cs y (jBb _) hy) f2;obtain⟨A3,c3,evs,rfl,g3,m3,_,k3⟩:=slice_open (f:=gevC) (Q:=λ_=>True) Tryz.underlying36 ece (by decide) (λ_=>rfl) (λfuel' cs y hy=>trod_event hy) f3;refine⟨i0,_,_,_,order,ts,evs,rfl,⟨⟨A1,c1,rfl,λhn=>?_⟩,⟨A2,c2,rfl,by unfold maxLen at m2;omega,k2⟩,q2,⟨A3,c3,rfl⟩,λhn=>?_,λh=>by cases h⟩⟩
 . obtain⟨X,o,e,hc⟩:=k1 hn
   refine⟨X,o,e,λi x hx=>?_⟩
   have:=hc i x hx 0 _ rfl;rw[jG,Nat.add_zero] at this;exact this
 . obtain⟨X,o,e,hc⟩:=k3 hn
   exact⟨X,o,c3,by rw[e],g3,hc⟩
end
theorem refuses_open(W:World)(vars f:Int)(order:List Int)(ts:List Tr)(evs:List G.Ev)(vo ve vp:Value)(A:Option Addr)(N c:Nat)(hA:AskIn (Qa W) vo ve vp order ts evs) :
 Calls Tryz.prog 5 #[.agg #[.int .i64 vars,vo,ve,vp],.int .i64 f,.slice A N c] W λe w'=>e=.returned (.bool true)/\Below W.heap.size W w':=drefuses_any hA
end
end Go.Proofs.YtidamcdklgfogaaGreat
