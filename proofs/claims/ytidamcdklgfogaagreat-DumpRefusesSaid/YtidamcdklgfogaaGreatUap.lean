import Derived.Test.YtidamcdklgfogaaGreatUao
set_option linter.unusedVariables false
set_option linter.unusedSimpArgs false
set_option maxRecDepth 100000
set_option maxHeartbeats 8000000
namespace Go.Proofs.YtidamcdklgfogaaGreat
section
open Go.RowKit
theorem Sat.addOne{E w:World}{I:PH}{ms:List PH}{D:Nat}{o:Obj}(h:Sat E I ms w)(hd:w.heap[D]?=some o)(hI:I D=none)(hm:∀m∈ms,m D=none):Sat E I (PH.one D o::ms) w:=by
 refine⟨h.os,h.tape,h.output,h.imm,λn hn=>?_,λn hn b=>?_,jLa.2 ⟨λn hn b=>?_,h.dis⟩,h.size⟩
 . rcases jBa.1 hn with rfl|hn
   . intro b o' hb
     obtain⟨rfl,rfl⟩:=PH.one_some hb;exact hd
   . exact h.own n hn
 . rcases jBa.1 hn with rfl|hn
   . by_cases hb:b=D
     . subst hb;exact .inr hI
     . refine .inl ?_;unfold PH.one;rw[jAa hb]
   . exact h.sep n hn b
 . by_cases hb:b=D
   . subst hb;exact .inr (hm n hn)
   . refine .inl ?_;unfold PH.one;rw[jAa hb]
theorem StAt.openTab{E w:World}{I m:PH}{ms:List PH}{S:Nat}{s:G.St}(hA:StAt S s m){v:Nat}(hv:v<s.tabs.length)(hS:Sat E I (m::ms) w) :
  ∃(J:PH) (T cT g:Nat) (tm:PH) (ns:List PH),I.le J/\J.at S 2=some (.slice (some ⟨T,0,none⟩) s.tabs.length cT)/\J.at T v=some (vPt g)/\TabAt g (s.tab v) tm/\Sat E J (tm::ns) w /\
    ∀tm' t' w',TabAt g t' tm'->Sat E J (tm'::ns) w'->∃m',StAt S { s with tabs:=s.tabs.set v t' } m'/\Sat E I (m'::ms) w':=by
 obtain⟨h0,L,P,vV,vL,vT,vC,gs,mV,mL,mP,mT,mC,tms,hbd,hV,hL,hP,hT,hC,hgs,htm,htab⟩:=hA;have hS:=Sat.unpack hbd hS;simp only[List.cons_append] at hS;obtain⟨T,cT,rfl,_⟩:=hT.ptr (by omega);have hg:=yA (l:=gs) (i:=v) (by omega);have htt:=yA (l:=s.tabs) (i:=v) hv;have htb:s.tabs[v]=s.tab v:=by unfold G.St.tab;rw[yD,htt];rfl
 have htv:=yA (l:=tms) (i:=v) (by omega);have hTab:=htab v _ _ _ hg htt htv;rw[htb] at hTab;have iT:Cells mT T v (ptC gs[v]):=by
  have:=Qs ptC_len hT hg
  rwa [jG] at this
 generalize gs[v]=g at *
 generalize tms[v]=tm at *
 obtain⟨J1,l1,lS,hS1,bS⟩:=hS.ice;have hS1:=hS1.pick 4 rfl;simp only[List.eraseIdx_cons_succ,List.eraseIdx_cons_zero] at hS1;obtain⟨J2,l2,lT,hS2,bT⟩:=hS1.ice;have hidx:(PH.one L (.cells #[vV,vL] 166)::mV::mL::mP::mC::(tms++ms))[5+v]?=some tm:=by
  rw[show 5+v=v+1+1+1+1+1 by omega];simp only[zA];rw[jHa (by omega)];exact htv
 have hS3:=hS2.pick (5+v) hidx;refine⟨J2,T,cT,g,tm,_,l1.trans l2,PH.at_le l2 (PH.at_le lS (Qb rfl)),PH.at_le lT (iT.at 0 rfl),hTab,hS3,λtm' t' w' ht' hS'=>?_⟩;have h1:=hS'.back (5+v) hidx;rw[show (PH.one L (.cells #[vV,vL] 166)::mV::mL::mP::mC::(tms++ms)).set (5+v) tm'=PH.one L (.cells #[vV,vL] 166)::mV::mL::mP::mC::(tms.set v tm'++ms) by
  rw[show 5+v=v+1+1+1+1+1 by omega];simp only[zF];rw[List.set_append_left _ _ (by omega)]] at h1
 have h2:=(bT _ _ h1).perm (jU (l₁:=[_,_,_,_]) (l₂:=mC::(tms.set v tm'++ms)) (a:=mT)).symm;have h3:=bS _ _ h2;refine StAt.close (s:={ s with tabs:=s.tabs.set v t' }) (L:=L) (P:=P) (vV:=vV) (vL:=vL) (vT:=.slice (some ⟨T,0,none⟩) s.tabs.length cT) (vC:=vC) (mV:=mV) (mL:=mL) (mP:=mP) (mT:=mT) (mC:=mC) (gs:=gs) (tms:=tms.set v tm') ⟨h0.vars,h0.lev,by simpa using h0.tabs,h0.cnt,h0.cntb,h0.dead,h0.levb,h0.varb⟩ hV hL hP (by simpa using hT) hC (by simpa using hgs) (by simpa using htm) (λx gx t tmx e1 e2 e3=>?_) h3;by_cases hx:x=v
 . subst hx
   have e2':(s.tabs.set x t')[x]?=some t:=e2;rw[jP hv] at e2';rw[jP (by omega)] at e3;rw[hg] at e1;cases e1;cases e2';cases e3;exact ht'
 . have e2':(s.tabs.set v t')[x]?=some t:=e2
   rw[jQa (λe=>hx e.symm)] at e2' e3;exact htab x gx t tmx e1 e2' e3
theorem StAt.openPool{E w:World}{I m:PH}{ms:List PH}{S:Nat}{s:G.St}(hA:StAt S s m)(hS:Sat E I (m::ms) w) :
  ∃(J:PH) (P:Nat) (mP:PH) (ns:List PH),I.le J/\J.at S 1=some (vPt P)/\PoolAt P s.pl mP/\Sat E J (mP::ns) w /\
    ∀mP' p' w',PoolAt P p' mP'->Sat E J (mP'::ns) w'->∃m',StAt S { s with pl:=p' } m'/\Sat E I (m'::ms) w':=by
 obtain⟨h0,L,P,vV,vL,vT,vC,gs,mV,mL,mP,mT,mC,tms,hbd,hV,hL,hP,hT,hC,hgs,htm,htab⟩:=hA;have hS:=Sat.unpack hbd hS;simp only[List.cons_append] at hS;obtain⟨J1,l1,lS,hS1,bS⟩:=hS.ice;have hS1:=hS1.pick 3 rfl;simp only[List.eraseIdx_cons_succ,List.eraseIdx_cons_zero] at hS1;refine⟨J1,P,mP,_,l1,PH.at_le lS (Qb rfl),hP,hS1,λmP' p' w' hp' hS'=>?_⟩;have h2:=hS'.perm (jU (l₁:=[_,_,_]) (l₂:=mT::mC::(tms++ms)) (a:=mP')).symm;have h3:=bS _ _ h2;exact StAt.close (s:={ s with pl:=p' }) ⟨h0.vars,h0.lev,h0.tabs,h0.cnt,h0.cntb,h0.dead,h0.levb,h0.varb⟩ hV hL hp' hT hC hgs htm htab h3
theorem Sat.putOne{E w:World}{I:PH}{ms:List PH}{D:Nat}{o:Obj}(h:Sat E I (PH.one D o::ms) w)(o':Obj):Sat E I ms (w.putObj D o'):=by
 have off:∀b,b≠D->(w.putObj D o').heap[b]?=w.heap[b]?:=λb hb=>World.putObj_heap_other hb
 have nI:∀b u,I b=some u->b≠D:=λb u hb e=>by
  subst e;rcases h.sep _ (.head _) b with h1|h1
  . rw[PH.one_self] at h1;cases h1
  . rw[hb] at h1;cases h1
 refine⟨h.os,h.tape,h.output,λb u hb=>(off b (nI b u hb)).trans (h.imm b u hb),λm hm b u hb=>?_,λm hm b=>h.sep m (.tail _ hm) b,(jLa.1 h.dis).2,by rw[World.putObj_size];exact h.size⟩;refine (off b ?_).trans (h.own m (.tail _ hm) b u hb);rintro rfl;rcases (jLa.1 h.dis).1 m hm b with h1|h1
 . rw[PH.one_self] at h1;cases h1
 . rw[hb] at h1;cases h1
theorem G.PlOk.give_any{p:G.Pl}(h:G.PlOk p)(id:Nat):G.PlOk (p.give id):=by
 cases hn:p.nd id with
 | some n=>exact (h.give hn).1
 | none =>
   have:p.give id=p:=by unfold G.Pl.give;rw[hn];rfl
   rw[this];exact h
theorem pgive_ok(E w:World)(I m:PH)(ms:List PH)(P:Nat)(p:G.Pl)(id:Nat)(hok:G.PlOk p)(hP:PoolAt P p m)(hS:Sat E I (m::ms) w) :
  Calls Tryz.prog 155 #[.pointer (some ⟨P,0,none⟩),nv id] w λe w'=>(∃c,e=.returned (.int .i64 c))/\∃m',PoolAt P (p.give id) m'/\Sat E I (m'::ms) w':=by
 cases hn:p.nd id with
 | some n =>
   refine (pgive_any E w I m ms P p id n hn (by have:=hok.count;omega) hP hS).mono ?_;rintro e w' ⟨rfl,h⟩;exact⟨⟨_,rfl⟩,h⟩
 | none =>
   have hg:p.give id=p:=by unfold G.Pl.give;rw[hn];rfl
   rw[hg];have hI:=yH (is_any (hP.read.le (hS.own _ (.head _))) (id:Int));have hf:p.isI (id:Int)=false:=by rw[G.Pl.isI_nat,hn];rfl
   rw[hf] at hI;have HP:=yH hP;clear hP;go_enter Tryz.func155,Tryz.ntmps155;go_wp2_with (first|(go_at_call 152;(with_reducible refine yI hI.out ?_);rintro e w9 ⟨rfl,rfl⟩))
   go_ret;exact⟨⟨_,rfl⟩,m,HP.out,hS⟩
end
section
open Go.ChangeShapes Go.WideShapes Go.ChangeAt Go.RowKit Go.Shelf
attribute [local go_sem] Oper.semAt_some
attribute [local go_sem ↓] wpIn_at_zero wpIn_at_succ
def goneL(cnt:List Nat)(l:List (Nat×G.Nd)):List (Nat×G.Nd):=l.filter λp=>cnt.getD p.1 0==0
def ndR(x:Nat×G.Nd):List Value:=ndC (some x.2,x.1)
theorem ndR_len(x:Nat×G.Nd):(ndR x).length=5:=ndC_len _
def CD(cnt:List Nat)(E:World)(I:PH)(ro:List PH)(XO:Nat)(xs:List (Nat×G.Nd))(S:Nat->Prop)(W:World):Prop :=
 ∃(mm:PH) (v:Value),OwnP mm 194 5 v (goneL cnt xs).length ((goneL cnt xs).flatMap ndR)/\Sat E I (ro++[mm,PH.one XO (.cells #[v] 214)]) W/\∀p∈ro++[mm,PH.one XO (.cells #[v] 214)],∀b,S b->p b=none
theorem CD.below{cnt:List Nat}{E:World}{I:PH}{ro:List PH}{XO:Nat}{xs:List (Nat×G.Nd)}{S:Nat->Prop}{W W':World}(h:CD cnt E I ro XO xs S W)(hb:Below W.heap.size W W'):CD cnt E I ro XO xs S W':=by
 obtain⟨mm,v,h1,h2,h3⟩:=h;exact⟨mm,v,h1,h2.below_ hb,h3⟩
theorem scollect_none{E w:World}{I m:PH}{ms:List PH}{S:Nat}{s:G.St}(hd:s.dead=0)(hA:StAt S s m)(hS:Sat E I (m::ms) w) :
  Calls Tryz.prog 139 #[vPt S] w λe w'=>e=.returned (nv 0)/\Sat E I (m::ms) w':=by
 obtain⟨J,lJ,mJ,hS,back⟩:=hS.ice;obtain⟨h0,L,P,vV,vL,vT,vC,gs,h1,h2,h3,h4,h5,h6⟩:=hA.read.le mJ;have Hback:=yH back;rw[hd] at h5;clear h1 h2 h3 h4 h6 back h0 mJ lJ hA;go_enter Tryz.func139,Tryz.ntmps139;go_wp2_with (first|(refine aG ?_)|(refine aL ?_)|(refine aX ?_;clear hS;intro X w hS))
 go_ret;exact⟨rfl,Hback.out _ _ hS.drop⟩
theorem src_perm'{I:PH}{ms ns:List PH}{p:PH}(h:Src I ms p)(hp:ms.Perm ns):Src I ns p:=h.of λ_ hm=>hp.mem_iff.1 hm
theorem goneL_snoc(cnt:List Nat)(l:List (Nat×G.Nd))(x:Nat×G.Nd):goneL cnt (l++[x])=goneL cnt l++(if cnt.getD x.1 0=0 then [x] else []):=by
 unfold goneL;rw[qBb];congr 1
 by_cases h:cnt.getD x.1 0=0
 . rw[jAb h,kCb (by rw[h];rfl)];rfl
 . rw[jAa h,kD (by rw[jRb];exact h)];rfl
theorem goneOf_eq{s:G.St}:∀{l g:List (Nat×G.Nd)},s.goneOf l=some g->g=goneL s.cnt l/\∀x∈l,x.1<s.cnt.length
 | [],g,h=>by cases h;exact⟨rfl,λx hx=>by cases hx⟩
 | (id,n)::l,g,h=>by
   unfold G.St.goneOf at h;cases hc:s.cnt[id]? with
   | none=>rw[hc] at h;cases h
   | some c =>
     rw[hc] at h;simp only[kB] at h;obtain⟨r,h1,h2⟩:=h;obtain⟨h3,h4⟩:=goneOf_eq h1;have hlt:=(yE.1 hc).1;have hg:s.cnt.getD id 0=c:=by rw[yD,hc];rfl
     refine⟨?_,λx hx=>?_⟩
     . rw[<- h2,h3]
       unfold goneL;rw[kLa];simp only[hg,jRb]
     . rcases jBa.1 hx with rfl|hx
       . exact hlt
       . exact h4 x hx
theorem scollect_some{E w:World}{I m:PH}{ms:List PH}{S k:Nat}{s s':G.St}(hc:s.collect=some (s',k))(hd:¬s.dead=0)(hok:G.PlOk s.pl)(hA:StAt S s m)(hS:Sat E I (m::ms) w) :
  Calls Tryz.prog 139 #[vPt S] w λe w'=>e=.returned (nv k)/\∃m',StAt S s' m'/\Sat E I (m'::ms) w':=by
 have hall:s.nodes=s.pl.all:=by
  unfold G.St.nodes G.Pl.all;rw[show s.pl.slots=none::s.pl.slots.drop 1 from hok.cons];rfl
 unfold G.St.collect at hc;rw[jAa hd] at hc;cases hgo:s.goneOf s.nodes with
 | none=>rw[hgo] at hc;cases hc
 | some gone =>
 rw[hgo] at hc;simp only[kB] at hc;obtain⟨sa,hsa,hc⟩:=hc;obtain⟨hgl,hlt⟩:=goneOf_eq hgo;rw[hall] at hgl hlt;injection hc with hc1 hc2
 subst hc2;have hcl:s.cnt.length<=4194304:=by obtain⟨h0,_⟩:=hA;exact h0.cnt
 have hsl:s.pl.slots.length<=1048577:=by have:=hok.len;have:=hok.room1;omega
 have hal:s.pl.all.length<=1048577:=by
  rw[<- hall,G.length_nodes hok];exact jFb (G.many_le _) hsl
 obtain⟨J,lJ,mJ,hS,back⟩:=hS.ice;obtain⟨h0,L,P,vV,vL,vT,vC,gs,i0,i1,i2,i3,i4,h6,h7,h8,h9,hP,hC,hgs,h13,h14⟩:=hA.read.le mJ;have Hback:=yH back;have HA:=yH hA;have hdi:¬(s.dead:Int)=0:=by omega
 have hdN:((s.dead:Int)==0)=false:=by simpa using hdi
 clear h6 h7 h8 h9 hgs h13 h14 back hA hgo;have Hsa:=yH hsa;have Hgl:=yH hgl;have Hlt:=yH hlt;have Hok:=yH hok;clear hsa hgl hlt hok hall;refine (callsIn_wide (n:=0)).1 ?_;refine callsIn_of_wp_marks (n:=0) Tryz.func139 rfl trivial ?_ rfl;simp only[Tryz.ntmps139,jS,yB,yC,Nat.reduceAdd,Nat.reduceSub,kDb,Array.replicate_zero,kK,kF,List.nil_append,List.cons_append];refine wpIn_wide.2 ?_;go_wp2_with (first|(go_at_call 154;((with_reducible refine yI (peach_any _ _) ?_);rintro e w1 ⟨rfl,rfl⟩;have hS2:=hS.alloc (.cells #[vPt P] 161);clear hS;have hS:=hS2;clear hS2;generalize (World.heap w).size=Y at *;generalize World.alloc w _=w1 at *))|((with_reducible refine Qu ?_);first|((with_reducible refine isBoxD 1 ?_);refine bx hS rfl rfl rfl ?_;clear hS;intro X1 w hS;(try simp only[Act.eval,zD,zC,zB,zJ,Value.cells] at hS);(try simp only[Act.put,zE,zF,zG]))|((with_reducible refine Xi 3 ?_);(refine' al (z:=_) hS rfl rfl ?ha ?_);(case ha=>exact ty_z214);clear hS;intro XO w hS;(try simp only[Value.cells] at hS);(try simp only[Act.put,zE,zF,zG]))|((with_reducible refine Zs ?_);  ((with_reducible refine Qy ?hw ?_);case hw=>(simp only[Region.wanted,yielded,zC,zA,zB,zK,jUa];done)) )|((with_reducible refine Qe ?_);(first|(refine ld1 0 hS rfl rfl ?ha rfl rfl rfl ?_;(case ha =>  exact ty_agg113 ))|(refine ld1 1 hS rfl rfl ?ha rfl rfl rfl ?_;(case ha =>  exact ty_agg113 ))|((refine' ldI1 (v:=_) hS rfl rfl ?ha rfl ?hb ?_);(case ha=>first|exact Qh|exact ty_agg161);(case hb=>assumption)));(try simp only[Act.put,zE,zF,zG])) ))
 obtain⟨J1,l1,lY,hS1,bY⟩:=hS.ice;obtain⟨J2,l2,lX1,hS2,bX1⟩:=(hS1.perm (List.Perm.swap _ _ _)).ice;have hPR:=(hP.le l1).le l2;have hIY:J2.at Y 0=some (vPt P):=PH.at_le (lY.trans l2) (Qb rfl);have hIX:J2.at X1 0=some (vPt S):=PH.at_le lX1 (Qb rfl);have hIC:J2.at S 3=some vC:=PH.at_le (l1.trans l2) i3;have hNC:=(hC.le l1).le l2;have HbY:=yH bY;have HbX1:=yH bX1;have hS3:Sat E J2 (ms++[λ_=>none,PH.one XO (.cells #[.slice none 0 0] 214)]) w1:=hS2.empty.perm (jIb (l₁:=[_,_]));have hit:=peach1_iter w1 J2 P Y s.pl hS3.ile hIY hPR;have hIlt:∀b o,J2 b=some o->b<w1.heap.size:=λb o hb=>hS3.ilt hb
 have hrolt:∀p∈ms,∀b o,p b=some o->b<w1.heap.size:=λp hp b o hb=>hS3.lt (jRa _ hp) hb
 clear hS hS1 hS2 bY bX1 l1 l2 lY lX1 i0 i1 i2 i3 i4 hP hC hIY hPR hdi hdN lJ mJ;refine (wpIn_wide (n:=0)).1 ?_;refine rangeFunc_law (K:=Kof J2) (gf:=164) (lb := #[.pointer (some ⟨Y,0,none⟩)]) (w0:=w1) rfl (enters_of Tryz.func164 (by kernel_rfl) rfl)
  hit (Keeps.refl _ _) (λb hb=>Kof.lt hS3.ile hb) ?hps
  (λS pre W'=>CD s.cnt E J2 ms XO pre S W') (λS cd _ W'=>False) ?hI ?hIx ?start
  (λx a' W'=>∃Bx,W'.heap[Bx]?=some (.cells (ndR x).toArray 194)/\a'=⟨#[vPt S,Value.pointer (some { block:=X1,off:=0 }),Value.int IntKind.i64 0,Value.pointer (some { block:=XO,off:=0 }),.pointer (some ⟨Bx,0,none⟩),undef,undef,vPt S,Value.bool false,Value.bool false,vPt S,vPt S,Value.pointer (some { block:=S,off:=4 }),nv s.dead,Value.bool false,Value.bool false,vPt S,vPt S,Value.pointer (some { block:=S,off:=1 }),vPt P,Value.func (Fn.func 164) #[] #[Value.pointer (some { block:=Y,off:=0 })],ndA x.1 x.2,undef,undef,undef,undef,undef,undef,undef,undef,undef,undef,undef,undef,undef,undef,undef,undef,undef,undef,undef,undef,undef,undef,undef,undef,undef,undef,undef,undef,undef,undef,undef,undef,undef,undef,undef,undef,undef,undef,undef,undef,undef,undef,undef,undef,undef],[]⟩) ?hAx ?assign ?body ?done ?stop
 case hps=>exact λ_=>rfl
 case hI =>
  rintro S pre A B row ⟨mm,v,h1,h2,h3⟩ hg hr;refine⟨mm,v,h1,h2.turn hg hr (λb o hb=>.inl (hIlt b o hb)) (λp hp b o hb=>?_),h3⟩;rcases jH.1 hp with hp|hp
  . exact .inl (hrolt p hp b o hb)
  . simp only[jBa,jCa,jJb] at hp
    rcases hp with rfl|rfl
    . exact .inr (h1.isCells b o hb)
    . exact .inr (PH.one_isCells b o hb)
 case hIx=>exact λS c s A B row h=>h.elim
 case start =>
  intro S W' hb hst;refine⟨λ_=>none,.slice none 0 0,OwnP.nil _ _,hS3.below_ hb,λp hp b hSb=>?_⟩;cases hpb:p b with
  | none=>rfl
  | some o =>
    exfalso
    rcases hst.2 b hSb with h|h
    . rcases hS3.sep p hp b with h4|h4
      . rw[hpb] at h4;cases h4
      . exact h h4
    . have:=hS3.lt hp hpb;omega
 case hAx =>
  rintro x a' s X Y' row ⟨Bx,h1,h2⟩ hg hr;refine⟨Bx,(hg.block Bx (jDa.1 h1).1 λe=>?_).trans h1,h2⟩;obtain⟨o,ho,hc⟩:=(hr Bx e.symm).2;rw[h1] at ho;cases ho;cases hc
 case assign =>
  intro l' S pre x suf W' K' hxs hSl hKS hi hK;have HK:=yH hK;have Hi:=yH hi;clear hK hi;obtain⟨xi,xn⟩:=x;unfold encNd ndA
  gi_wp2
  refine HK.out _ _ ((Keeps.refl S W').alloc hSl _) (Hi.out.below ((Below.refl _ _).alloc (jBb _) _)) ⟨_,World.alloc_heap_new W' _,?_⟩;rfl
 case body =>
  rintro l' S9 pre x suf a' W' hxs hSl hKS ⟨mm,v,hO,hSr,hap⟩ ⟨Bx,hbx,rfl⟩;obtain⟨I1,hI1,hS,hfull⟩:=hSr.full;have HI1:=yH hI1;clear hI1;obtain⟨xi,xn⟩:=x;have hxm:(xi,xn)∈s.pl.all:=by rw[hxs];simp
  have hxl:xi<s.cnt.length:=Hlt.out _ hxm;have hpre:pre.length<1048577:=by have:=jNa List.length hxs;rw[yG,yB] at this;omega
  have hgp:(goneL s.cnt pre).length<=pre.length:=kG _ _;have hsn:=goneL_snoc s.cnt pre (xi,xn);obtain⟨C,cC,rfl,hCx⟩:=hNC.2 (by omega);have hcx:=hCx xi _ (yA hxl);have hcg:s.cnt.getD xi 0=s.cnt[xi]:=by rw[yD,yA hxl];rfl
  rw[show (xi,xn).1=xi from rfl,hcg] at hsn;have c0:=Ql hSr.ile hIX;have c1:=Ql hSr.ile hIC;have c2:=Ql hSr.ile hcx;have hxli:(xi:Int)<(s.cnt.length:Int):=by omega
  have hcl2:(s.cnt.length:Int)<=4194304:=by omega
  generalize s.cnt[xi]=c at *
  generalize hcn:s.cnt.length=cn at *
  have cb:∀j u,(ndR (xi,xn))[j]?=some u->W'.cell? ⟨Bx,j,none⟩=some u:=λj u hj=>(cell_of_row W' Bx j _ _ (0,0) hbx).trans (by simpa using hj)
  have c3:W'.cell? ⟨Bx,0,none⟩=some (nv xi):=cb 0 _ rfl;generalize hgxs:goneL s.cnt pre=gx at *
  obtain⟨A0,c0',rfl,hc0⟩:=hO.shape;have Hxs:=yH hxs;have Hfull:=yH hfull;have Hap:=yH hap;have HSr:=yH hSr;have HO:=yH hO;have Hsn:=yH hsn;have Hgx:=yH hgxs;obtain⟨p,hp,hpb⟩:=hS.find hfull Bx;have hcells:Cells p Bx 0 (ndR (xi,xn)):=λj u hj=>by rw[jLb];exact PH.at_of_cell hpb (cb j u hj)
  have Hcells:=yH hcells;have Hp:=yH hp;have hmx:Tryz.prog.follows .mixedOrders=true:=by kernel_rfl
  clear hxs hfull hap hSr hO hsn hgxs hp hpb hcells cb hbx hNC hIC hIX hit hCx hcx hcg hxm hcn hc0 hS3;have hgl0:gx.length<=1048577:=by omega
  have p0:(0:Int)<=(gx.length:Int):=by omega
  have p1:(gx.length:Int)<=1048577:=by omega
  by_cases hz:c=0
  . subst hz
    gi_wp2
    refine round_tail 8 (by kernel_rfl) (by kernel_rfl) ?_;simp only[List.take_succ_cons,List.take_zero,kOa,qDa]
    repeat still_step
    refine wpStill_nil ?_;clear c0 c1 c2 c3;have hS:=(hS.perm (jIb (l₁:=ms))).drew;simp only[List.cons_append,List.nil_append] at hS;have hO:=HO.out
    gi_wp2_with (first|((with_reducible refine risLoad ?_);(refine wp_ldN (hS.src (src_perm' Hp.out (jIb (l₁:=ms)))) rfl ty_agg194 rfl Hcells.out Qz ?_);refine aM ?_)|((with_reducible refine risAppend ?_);(refine' wp_apP (p:=_) (m:=_) (v:=_) (n:=_) (xs:=_) (news:=_) hS 1 rfl (.inr (List.Mem.head _)) rfl Tryz.underlying214 node_info rfl (by decide) rfl ?hown rfl ?hl ?hcl ?h1 ?h63 ?hby ?_);(case hown=>assumption);(case hcl=>exact Cells.one _ _ _ _);(case hl=>rfl);(case h1=>rfl);(case h63=>go_light;unfold maxLen;omega);(case hby=>go_light;omega);clear hS hO;intro v1 m1 w hO hS;refine Veil.out ?_;obtain⟨A1,c1,rfl,_⟩:=OwnP.shape hO;refine⟨?_⟩;(try simp only[zF,zG] at hS);refine aM ?_)|((with_reducible refine ratList ?_);first|((with_reducible refine risLoad ?_);( (refine wp_k1 1 hS rfl ?ha rfl rfl rfl ?_;(case ha =>  exact ty_agg214 )) );refine aM ?_)|((with_reducible refine risStore ?_);( (refine wp_st1 hS 2 rfl rfl rfl rfl ?ha rfl rfl ?hb ?_;(case ha =>  exact ty_sz214 );(case hb=>(simp;done))));clear hS;intro w hS;(try simp only[zF,zG,zE,Act.eval,zD,zC,zA,zB,zJ] at hS);(try simp only[Act.put]))|((with_reducible refine risBuildSlice ?_);(refine' wp_bsl hS ?hr ?_);(case hr=>(intro w0;go_simp;rfl));clear hS;intro XS w hS;refine aM ?_)))
    have hS2:=hS.drop.perm (jIb (l₁:=[m1,PH.one XO (.cells #[.slice A1 (gx.length+1) c1] 214)]) (l₂:=ms));obtain⟨hk,hap'⟩:=Sat.keeps Hfull.out hSl Hap.out (PH.le.refl _) hS2;refine⟨hk,m1,.slice A1 (gx.length+1) c1,?_,(HSr.out.unbase hS2).less HI1.out,hap'⟩;rw[Hsn.out];have hO2:OwnP m1 194 5 (.slice A1 (gx.length+1) c1) (gx.length+1) (gx.flatMap ndR++ndR (xi,xn)):=hO
    simpa using hO2
  . have hzi:¬(c:Int)=0:=by omega
    have hzb:((c:Int)==0)=false:=by simpa using hzi
    gi_wp2
    refine round_tail 8 (by kernel_rfl) (by kernel_rfl) ?_;simp only[List.take_succ_cons,List.take_zero,kOa,qDa]
    repeat still_step
    refine wpStill_nil ?_;clear c0 c1 c2 c3
    gi_wp2
    refine⟨Keeps.refl _ _,mm,.slice A0 gx.length c0',?_,HSr.out.drew,Hap.out⟩;rw[Hsn.out,jAa hz,jZb];exact HO.out
 case stop=>exact λD S c pre W h1 h2 h3 h4=>h4.elim
 case done =>
  rintro D S9 W3 hD hSS ⟨mm,v,hO,hSr,hap⟩ hd;have hX1:s.pl.all.length<=1048577:=hal;rw[<- Hgl.out] at hO;have hgn:gone.length<=1048577:=by rw[Hgl.out];exact jFb (kG _ _) hal
  have hDm:∀q∈(ms++[mm,PH.one XO (.cells #[v] 214)]),q D=none:=λq hq=>by
   cases hq2:q D with
   | none=>rfl
   | some o =>
     exfalso
     have h1:W3.heap[D]?=some o:=hSr.own q hq D o hq2;rw[hd] at h1;injection h1 with h1
     rcases jH.1 hq with hq|hq
     . have:=hrolt q hq D o hq2;omega
     . simp only[jBa,jCa,jJb] at hq
       rcases hq with rfl|rfl
       . have:=hO.isCells D o hq2;rw[<- h1] at this;cases this
       . have:=PH.one_isCells D o hq2;rw[<- h1] at this;cases this
  have hDI:J2 D=none:=by
   cases h:J2 D with
   | none=>rfl
   | some o=>have:=hIlt D o h;omega
  have hT0:=hSr.addOne hd hDI hDm;have hT1:=hT0.perm (List.Perm.cons _ (jIb (l₁:=ms)));have hT2:=Hback.out _ _ (HbY.out _ _ (HbX1.out _ _ hT1));simp only[List.cons_append,List.nil_append] at hT2;have hT3:=hT2.pick 4 rfl;simp only[List.eraseIdx_cons_succ,List.eraseIdx_cons_zero] at hT3;obtain⟨K1,k1,lmm,hT4,_⟩:=hT3.ice;have hT5:=hT4.pick 4 rfl;simp only[List.eraseIdx_cons_succ,List.eraseIdx_cons_zero] at hT5;obtain⟨K2,k2,lXO,hT6,_⟩:=hT5.ice;have hT7:=hT6.pick 2 rfl;simp only[List.eraseIdx_cons_succ,List.eraseIdx_cons_zero] at hT7;clear hS;obtain⟨K3,k3,lX1',hS,_⟩:=hT7.ice;clear hT0 hT1 hT2 hT3 hT4 hT5 hT6 hT7;have iX1:K3.at X1 0=some (vPt S):=PH.at_le lX1' (Qb rfl);have iXO:K3.at XO 0=some v:=PH.at_le (lXO.trans k3) (Qb rfl);have hK3:I.le K3:=(k1.trans k2).trans k3;have hrow:∀(i:Nat) x,gone[i]?=some x->∃A c,v=.slice (some ⟨A,0,none⟩) gone.length c/\Cells K3 A (i*5) (ndR x):=λi x hx=>by
   obtain⟨A,c,rfl,_⟩:=hO.ptr (by have:=(yE.1 hx).1;omega);exact⟨A,c,rfl,(Qs ndR_len hO hx).le (lmm.trans (k2.trans k3))⟩
  obtain⟨A0,c0,rfl,_⟩:=hO.shape;have Hrow:=yH hrow;have HK3:=yH hK3;have hgi:(gone.length:Int)<=1048577:=by omega
  clear hSr hap hO hd hDm hDI hSS lmm lXO lX1' k1 k2 k3 hrow hK3 hX1 hit hNC hIC hIX hS3 hD;generalize hgn2:gone.length=n at *
  go_wp2_with (first|(refine aL ?_))
  go_loopw [37] (λv37 wr=>∃(i:Nat) (si:G.St) (mi:PH),i<=n/\v37=.int .i64 (i:Int)/\si.away (gone.drop i)=some sa/\G.PlOk si.pl/\StAt S si mi/\Sat E K3 (mi::PH.one Y (.cells #[vPt P] 161)::PH.one D (.deferred (some []))::ms) wr) (λv37 _=>(n-intOf v37).toNat)
  case atStart=>exact⟨0,s,m,jC _,rfl,Hsa.out,Hok.out,HA.out,hS⟩
  case round =>
   clear hS;obtain⟨i,si,mi,hin,rfl,haw,hpi,hAi,hS⟩:=hrel;have HAi:=yH hAi;have Hpi:=yH hpi;have Haw:=yH haw;clear hAi hpi haw;by_cases hlt:i<n
   . obtain⟨x,hx⟩:∃x,gone[i]?=some x:=⟨_,yA (by omega)⟩
     obtain⟨A,c,hv,hcell⟩:=Hrow.out i x hx;injection hv with hv _ hc
     subst hv hc;obtain⟨id,nd⟩:=x;have hdrop:gone.drop i=(id,nd)::gone.drop (i+1):=by
      have hl:i<gone.length:=by omega
      rw[jL hl];rw[yA hl] at hx;injection hx with hx
      rw[hx]
     have haw2:=Haw.out;rw[hdrop] at haw2;unfold G.St.away at haw2;by_cases hvl:nd.v<si.tabs.length
     case neg=>rw[jAa hvl] at haw2;cases haw2
     rw[jAb hvl] at haw2;have Haw2:=yH haw2;have hcell:Cells K3 A (i*5) [nv id,nv nd.v,nv nd.lo,nv nd.hi,nv nd.refs]:=hcell;have ii:(i:Int)<(n:Int):=by omega
     have ni:(n:Int)<=1048577:=by omega
     clear haw2 hx hdrop;go_wp2_with (first|(refine aN 6 ?_;clear hS;intro N6 w hS)|(refine aL ?_)|(refine aS ?_;clear hS;intro w hS))
     obtain⟨K4,k4,lN6,hS4,bN6⟩:=hS.ice;obtain⟨K5,T,cT,g,tm,ns,k5,iS2,iT,hTb,hS5,hfin⟩:=HAi.out.openTab hvl hS4;have i1:K5.at X1 0=some (vPt S):=PH.at_le k5 (PH.at_le k4 iX1);have j1:K5.at N6 1=some (nv nd.v):=PH.at_le k5 (PH.at_le lN6 (Qb rfl));have j2:K5.at N6 2=some (nv nd.lo):=PH.at_le k5 (PH.at_le lN6 (Qb rfl));have j3:K5.at N6 3=some (nv nd.hi):=PH.at_le k5 (PH.at_le lN6 (Qb rfl));have j0:K4.at N6 0=some (nv id):=PH.at_le lN6 (Qb rfl);have q1:K4.at X1 0=some (vPt S):=PH.at_le k4 iX1;have hvl64:si.tabs.length<=64:=by obtain⟨h0,_⟩:=HAi.out;exact h0.tabs
     have Hfin:=yH hfin;have HTb:=yH hTb;have HbN6:=yH bN6;have HN:∀w',(K5.le (Qa w')->True):=λ_ _=>trivial
     clear hS hS4 hfin hTb bN6 HN lN6 k4;refine Qf [[],[0],[0,1],[0,1,2],[],[4],[0,1,2,3,4,5],[0,1,2,3,4,5,6],[],[8],[],[10],[0,1,2,3,4,5,6,7,8,9,10,11]] E K5 _
      [λv _=>v=vPt S,λv _=>v=vPt S,λv _=>v=.pointer (some ⟨S,2,none⟩),λv _=>v=.slice (some ⟨T,0,none⟩) si.tabs.length cT,λv _=>v=.pointer (some ⟨N6,1,none⟩),λv _=>v=nv nd.v,λv _=>v=.pointer (some ⟨T,nd.v,none⟩),λv _=>v=vPt g,λv _=>v=.pointer (some ⟨N6,2,none⟩),λv _=>v=nv nd.lo,λv _=>v=.pointer (some ⟨N6,3,none⟩),λv _=>v=nv nd.hi,λ_ _=>True] [12]
      (set1G _ 0 (λm'=>TabAt g (G.cutT (si.tab nd.v) nd.lo nd.hi) m')) (by kernel_rfl) (by kernel_rfl) (by decide) hS5 rfl ?last (λ_ _ _ _ _ _ h=>h) (λ_ _ _ _ _ _ h=>h) ?plain ?step ?fin
     case last=>exact bL
     case plain=>(repeat' (first|exact trivial|apply And.intro)) <;> first|exact .inl rfl|(refine .inr ?_;intro s vals J bs w hstop hg hJ hS hG;clear hG;refine bS ?_;intro K HK;(first|(refine bJ ?_)|(go_wp2_with (fail)));exact bO)
     case step =>
      refine⟨trivial,?_⟩;intro vals J bs w hg hJ hS hG;have hG:bs=_:=hG;subst hG;refine bS ?_;intro K HK;go_wp2_with (go_at_call 145;(with_reducible refine yI (tcut_any HTb.out nd.lo nd.hi hS) ?_);clear hS;rintro e w ⟨⟨c9,rfl⟩,tm',hT',hS⟩)
      exact HK.out _ _ ⟨rfl,J,_,PH.le.refl _,hS,trivial,tm',hT',rfl⟩
     case fin =>
      intro vals J bs w hJ hg hS hG;obtain⟨tm',hT',hns⟩:=hG;subst hns;have hS:=hS.less hJ;obtain⟨m1,hA1,hS1⟩:=Hfin.out tm' _ w hT' hS;refine bH ?_;clear hg hS hT' hJ i1 j1 j2 j3 iS2 iT;obtain⟨K6,P6,mP,ns6,k6,iS1,hP6,hS6,hfin6⟩:=hA1.openPool hS1;have i1:K6.at X1 0=some (vPt S):=PH.at_le k6 q1;have j0:K6.at N6 0=some (nv id):=PH.at_le k6 j0;have Hfin6:=yH hfin6;have HP6:=yH hP6;clear hfin6 hP6 hS1 hA1 k6 q1 k5;go_wp2_with fail
      refine Qf [[],[0],[0,1],[0,1,2],[],[4],[0,1,2,3,4,5]] E K6 _
       [λv _=>v=vPt S,λv _=>v=vPt S,λv _=>v=.pointer (some ⟨S,1,none⟩),λv _=>v=vPt P6,λv _=>v=.pointer (some ⟨N6,0,none⟩),λv _=>v=nv id,λ_ _=>True] [6]
       (set1G _ 0 (λm'=>PoolAt P6 (si.pl.give id) m')) (by kernel_rfl) (by kernel_rfl) (by decide) hS6 rfl ?last (λ_ _ _ _ _ _ h=>h) (λ_ _ _ _ _ _ h=>h) ?plain ?step ?fin
      case last=>exact bL
      case plain=>(repeat' (first|exact trivial|apply And.intro)) <;> first|exact .inl rfl|(refine .inr ?_;intro s vals J bs w hstop hg hJ hS hG;clear hG;refine bS ?_;intro K HK;(first|(refine bJ ?_)|(go_wp2_with (fail)));exact bO)
      case step =>
       refine⟨trivial,?_⟩;intro vals J bs w hg hJ hS hG;have hG:bs=_:=hG;subst hG;refine bS ?_;intro K HK;go_wp2_with (go_at_call 155;(with_reducible refine yI (pgive_ok _ _ _ _ _ P6 si.pl id Hpi.out HP6.out hS) ?_);clear hS;rintro e w ⟨⟨c9,rfl⟩,mP',hP',hS⟩)
       exact HK.out _ _ ⟨rfl,J,_,PH.le.refl _,hS,trivial,mP',hP',rfl⟩
      case fin =>
       intro vals J bs w hJ hg hS hG;obtain⟨mP',hP',hns⟩:=hG;subst hns;have hS:=hS.less hJ;obtain⟨m2,hA2,hS2⟩:=Hfin6.out mP' _ w hP' hS;have hS2:=(HbN6.out _ _ hS2).drop;have HA2:=yH hA2;refine bH ?_;clear hg hS hP' hJ i1 j0 iS1 hA2;go_wp2
       refine⟨⟨i+1,_,m2,by omega,by go_num,Haw2.out,G.PlOk.give_any Hpi.out id,HA2.out,hS2⟩,by simp[intOf];omega⟩
   . have hin2:i=n:=by omega
     subst hin2;have haw:=Haw.out;rw[kAb (by omega)] at haw;injection haw with haw
     subst haw;obtain⟨g0,L,P9,vV9,vL9,vT9,vC9,gs9,mV,mL,mP,mT,mC,tms,hbd,hV,hL,hP,hT,hC,hgs,htm,htab⟩:=HAi.out;have hfin:∀w',Sat E K3 (PH.one S (.cells #[vPt L,vPt P9,vT9,vC9,nv 0] 164)::PH.one L (.cells #[vV9,vL9] 166)::mV::mL::mP::mT::mC::(tms++PH.one Y (.cells #[vPt P] 161)::PH.one D (.deferred (some []))::ms)) w'->∃m',StAt S { si with dead:=0 } m'/\Sat E K3 (m'::PH.one Y (.cells #[vPt P] 161)::PH.one D (.deferred (some []))::ms) w' :=
      λw' h=>StAt.close (s:={ si with dead:=0 }) ⟨g0.vars,g0.lev,g0.tabs,g0.cnt,g0.cntb,show (0:Nat)<=4611686018427387904 by decide,g0.levb,g0.varb⟩ hV hL hP hT hC hgs htm htab h
     have Hfin:=yH hfin;have hS:=Sat.unpack hbd hS;simp only[List.cons_append] at hS;clear hbd hV hL hP hT hC hgs htm htab hfin g0;go_wp2_with (first|(refine aL ?_)|(refine aS ?_;clear hS;intro w hS))
     obtain⟨m',hA',hS'⟩:=Hfin.out _ hS;have hS'':=hS'.less HK3.out;have hdw:=hS''.own _ (.tail _ (.tail _ (.head _))) D _ (PH.one_self D _);refine⟨by simp,.inl ⟨_,_,rfl,run_takeDeferred hdw,?_⟩⟩;refine⟨_,(results_tmp Tryz.results139 _ _ _),?_⟩;subst hc1;refine⟨by rw[<- hgn2];rfl,m',hA',?_⟩;have h3:=(hS''.perm (List.Perm.trans (List.Perm.cons _ (List.Perm.swap _ _ _)) (List.Perm.swap _ _ _))).putOne (.deferred none);exact (h3.perm (List.Perm.swap _ _ _)).drop
theorem scollect_any{E w:World}{I m:PH}{ms:List PH}{S k:Nat}{s s':G.St}(hc:s.collect=some (s',k))(hok:G.PlOk s.pl)(hA:StAt S s m)(hS:Sat E I (m::ms) w) :
  Calls Tryz.prog 139 #[vPt S] w λe w'=>e=.returned (nv k)/\∃m',StAt S s' m'/\Sat E I (m'::ms) w':=by
 by_cases hd:s.dead=0
 . unfold G.St.collect at hc
   rw[jAb hd] at hc;cases hc;refine (scollect_none hd hA hS).mono ?_;rintro e w' ⟨rfl,h⟩;exact⟨rfl,m,hA,h⟩
 . exact scollect_some hc hd hok hA hS
end
namespace G
theorem sorted_ins(x:Nat):∀{l:List Nat},l.Pairwise (·<=·)->(ins x l).Pairwise (·<=·)
 | [],_=>by simp[ins]
 | y::l,h=>by
   unfold ins;rw[jLa] at h;split
   . rename_i hxy
     rw[jLa,jLa];exact⟨λa ha=>by rcases jBa.1 ha with rfl|ha;exact hxy;exact jFb hxy (h.1 a ha),h.1,h.2⟩
   . rename_i hxy
     rw[jLa];exact⟨λa ha=>by rcases mem_ins.1 ha with rfl|ha;omega;exact h.1 a ha,sorted_ins x h.2⟩
theorem sorted_isort:∀l:List Nat,(isort l).Pairwise (·<=·)
 | []=>by simp[isort]
 | x::l=>sorted_ins x (sorted_isort l)
theorem perm_ins(x:Nat):∀l:List Nat,(ins x l).Perm (x::l)
 | []=>kOb _
 | y::l=>by
   unfold ins;split
   . exact kOb _
   . exact ((perm_ins x l).cons y).trans (List.Perm.swap _ _ _)
theorem perm_isort:∀l:List Nat,(isort l).Perm l
 | []=>kOb _
 | x::l=>(perm_ins x _).trans ((perm_isort l).cons x)
def St.tdOf(s:St)(y id:Nat):Option Td:=match s.nd id with
 | none=>none
 | some n=>if (s.split n.lo y).1≠(s.split n.lo y).2\/(s.split n.hi y).1≠(s.split n.hi y).2 then some ⟨id,n,(s.split n.lo y).1,(s.split n.lo y).2,(s.split n.hi y).1,(s.split n.hi y).2⟩ else none
theorem St.turnOf_eq{s:St}{y:Nat}:∀{l:List Nat} {r:List Td},s.turnOf y l=some r->r=l.filterMap (s.tdOf y)/\∀id∈l,(s.nd id).isSome=true
 | [],r,h=>by cases h;exact⟨rfl,λid h=>by cases h⟩
 | id::l,r,h=>by
   unfold St.turnOf at h;cases hn:s.nd id with
   | none=>rw[hn] at h;cases h
   | some n =>
     rw[hn] at h;simp only[kB] at h;obtain⟨r',h1,h2⟩:=h;obtain⟨h3,h4⟩:=St.turnOf_eq h1;refine⟨?_,λi hi=>by rcases jBa.1 hi with rfl|hi;rw[hn];rfl;exact h4 i hi⟩;have ht:s.tdOf y id=if (s.split n.lo y).1≠(s.split n.lo y).2\/(s.split n.hi y).1≠(s.split n.hi y).2 then some ⟨id,n,(s.split n.lo y).1,(s.split n.lo y).2,(s.split n.hi y).1,(s.split n.hi y).2⟩ else none:=by unfold St.tdOf;rw[hn]
     rw[List.filterMap_cons,ht,<- h2,h3];by_cases hc:(s.split n.lo y).1≠(s.split n.lo y).2\/(s.split n.hi y).1≠(s.split n.hi y).2
     . rw[jAb hc,jAb hc]
     . rw[jAa hc,jAa hc]
end G
section
open Go.ChangeShapes Go.WideShapes Go.ChangeAt Go.RowKit Go.Lib Go.Sort
attribute [local go_sem] Oper.semAt_some
attribute [local go_sem ↓] wpIn_at_zero wpIn_at_succ
theorem ty_agg225:Ky Tryz.prog 225=some true:=by kernel_rfl
theorem ty_sz225:Kg Tryz.prog 225=some 9:=by kernel_rfl
theorem ty_z225:Xh Tryz.prog 225=some (.agg #[.int .i64 0,.int .i64 0,.int .i64 0,.int .i64 0,.int .i64 0,.int .i64 0,.int .i64 0,.int .i64 0,.int .i64 0]):=by kernel_rfl
theorem ty_agg220:Ky Tryz.prog 220=some false:=by kernel_rfl
theorem ty_sz220:Kg Tryz.prog 220=some 1:=by kernel_rfl
theorem ty_z220:Xh Tryz.prog 220=some (.slice none 0 0):=by kernel_rfl
theorem turned_info:(Tryz.prog.info? 225).map (λi=>(i.zero,i.size,i.bytes))=some (some (.agg #[.int .i64 0,.int .i64 0,.int .i64 0,.int .i64 0,.int .i64 0,.int .i64 0,.int .i64 0,.int .i64 0,.int .i64 0]),9,72):=by kernel_rfl
theorem Zt{n l:Nat}{P:Program}{f:FuncId}{args:Array Value}{w:World}{R R':Ending->World->Prop}(h:Calls P f args w R)(k:∀e w',R e w'->R' e w') :
 Fence.wide.fn f/\Fence.wide.depth=none/\CallsIn (Fence.wide.inRound l) n P f args w R':=⟨trivial,rfl,CallsIn.inRound l ((callsIn_wide.2 h).mono k)⟩
theorem find_self{es:List En}(hk:(es.map En.key).Nodup):∀e∈es,idE es e.key=e.id:=by
 intro e he;unfold idE findE;have hf:es.find? (λf=>decide ((f.lo,f.hi)=(e.key.1,e.key.2)))=some e:=by
  induction es with
  | nil=>cases he
  | cons f es ih =>
    rw[jDb,jMa] at hk;rw[List.find?_cons];by_cases hfe:(f.lo,f.hi)=(e.key.1,e.key.2)
    . rw[kP hfe]
      rcases jBa.1 he with rfl|he
      . rfl
      . exact absurd (jF.2 ⟨e,he,hfe.symm⟩) hk.1
    . rw[jVa hfe]
      rcases jBa.1 he with rfl|he
      . exact absurd rfl hfe
      . exact ih hk.2 he
 rw[hf];rfl
theorem srt_ids{es:List En}{t:List G.Ent}{c:Nat}(hok:MapOk (rows es) c)(hr:TRel es t):(srtE es).map (idE es)=(G.isort (t.map (·.id))).map (λn:Nat=>(n:Int)):=by
 have hk:(es.map En.key).Nodup:=by
  have:=hok.keys;unfold rows at this;rw[jXa] at this;exact this
 have p1:((srtE es).map (idE es)).Perm (es.map (·.id)):=by
  have h1:=(List.mergeSort_perm (es.map En.key) λx y=>!(ltOf (cfE es)) y x).map (idE es);rw[jXa] at h1;refine h1.trans (.of_eq ?_);exact jXb λe he=>find_self hk e he
 have p2:es.map (·.id)=(t.map (·.id)).map (λn:Nat=>(n:Int)):=by
  have:=jNa (λl=>l.map λx:Int×Int×Int=>x.2.2) hr;simp only[jXa] at this;rw[jXa];exact this
 have p3:((G.isort (t.map (·.id))).map (λn:Nat=>(n:Int))).Perm (es.map (·.id)):=by
  rw[p2];exact (G.perm_isort _).map _
 refine List.Perm.eq_of_pairwise (le:=λx y:Int=>x<=y) (λa b _ _ h1 h2=>by omega) ?_ ?_ (p1.trans p3.symm)
 . rw[List.pairwise_map]
   have hs:(srtE es).Pairwise λx y=>(!(ltOf (cfE es)) y x)=true:=List.pairwise_mergeSort (λa b c h1 h2=>by
    simp only[kNa] at *
    exact (cf_swo es).ntrans _ _ _ h2 h1) (λa b=>by
    cases hab:ltOf (cfE es) b a with
    | false=>rfl
    | true =>
      cases hba:ltOf (cfE es) a b with
      | false=>rfl
      | true =>
        have:=(cf_swo es).trans _ _ _ hab hba;rw[(cf_swo es).irrefl] at this;cases this) _
   refine hs.imp λ{x y} h=>?_
   rw[cf_lt] at h;simp only[kNa,jD] at h;omega
 . rw[List.pairwise_map]
   exact (G.sorted_isort _).imp λh=>by omega
theorem ueach_any(w:World)(p:Option Addr) :
  Calls Tryz.prog 156 #[.pointer p] w λe w'=>e=.returned (.func (.func 166) #[] #[.pointer (some ⟨w.heap.size,0,none⟩)])/\w'=w.alloc (.cells #[.pointer p] 180):=by
 go_enter Tryz.func156,Tryz.ntmps156;go_wp2
 go_ret;exact⟨rfl,rfl⟩
def tdC(t:G.Td):List Value:=[nv t.id,nv t.n.v,nv t.n.lo,nv t.n.hi,nv t.n.refs,nv t.ll,nv t.lh,nv t.hl,nv t.hh]
theorem tdC_len(t:G.Td):(tdC t).length=9:=rfl
def TnD(s:G.St)(y:Nat)(es:List En)(E:World)(I:PH)(ro:List PH)(XO:Nat)(xs:List (Int×Int))(S:Nat->Prop)(W:World):Prop :=
 ∃(mm:PH) (v:Value) (ts:List G.Td),ts=(xs.map λk=>(idE es k).toNat).filterMap (s.tdOf y)/\OwnP mm 225 9 v ts.length (ts.flatMap tdC)/\Sat E I (ro++[mm,PH.one XO (.cells #[v] 220)]) W/\∀p∈ro++[mm,PH.one XO (.cells #[v] 220)],∀b,S b->p b=none
theorem sturn_any{E w:World}{I:PH}{ms:List PH}{S x y:Nat}{s:G.St}{T:List G.Td}(hT:s.turn x y=some T)(hx:x<s.tabs.length)(hlen:(s.tab x).length<=1000000)(hy:y<4611686018427387904)(hR:StR I S s)(hS:Sat E I ms w) :
  Calls Tryz.prog 140 #[vPt S,nv x,nv y] w λe w'=>∃v mo,e=.returned v/\OwnP mo 225 9 v T.length (T.flatMap tdC)/\Sat E I (mo::ms) w':=by
 obtain⟨hT1,hT2⟩:=G.St.turnOf_eq hT;obtain⟨h0,L,P,vV,vL,vT,vC,gs,h1,iS1,h3,h4,h5,h6,h7,h8,h9,hP,h11,hgs,h13,h14⟩:=id hR;obtain⟨TT,cT,rfl,hgt⟩:=h13 (by omega);have hg:=yA (l:=gs) (i:=x) (by omega);have htt:=yA (l:=s.tabs) (i:=x) hx;have htb:s.tabs[x]=s.tab x:=by unfold G.St.tab;rw[yD,htt];rfl
 have iT:=hgt x _ hg;have hTab:=h14 x _ _ hg htt;rw[htb] at hTab;generalize gs[x]=g at *
 obtain⟨M,es,c,htbin,hok,hrel⟩:=hTab;have hids:=srt_ids hok hrel;have hes:es.length<=1000000:=by rw[hrel.len];exact hlen
 have hsl:=srt_len es;have hxi:(x:Int)<(s.tabs.length:Int):=by omega
 have hx64:s.tabs.length<=64:=h0.tabs;have hnfit:=hP.1;have hPR:=hP;have hlist:(srtE es).map (λk=>(idE es k).toNat)=G.isort ((s.tab x).map (·.id)):=by
  have h1:=jNa (λl=>l.map Int.toNat) hids;simp only[jXa] at h1;refine Eq.trans ?_ (h1.trans ?_)
  . rfl
  . refine (jXb λa _=>?_).trans (List.map_id _)
    simp
 have hidnat:∀k∈srtE es,∃id:Nat,idE es k=(id:Int)/\(s.nd id).isSome=true:=λk hk=>by
  have hm:idE es k∈(srtE es).map (idE es):=jF.2 ⟨k,hk,rfl⟩;rw[hids] at hm;obtain⟨id,h1,h2⟩:=jF.1 hm;exact⟨id,h2.symm,hT2 id h1⟩
 have hT1':T=((srtE es).map λk=>(idE es k).toNat).filterMap (s.tdOf y):=by rw[hlist];exact hT1
 have Hidnat:=yH hidnat;have HT1:=yH hT1';have HTb:=yH htbin;have HPR:=yH hPR;have HR:=yH hR;have Hok:=yH hok;have Hfit:=yH hnfit;clear h0 h1 h4 h5 h6 h7 h8 h9 hP h11 hgs h13 h14 hgt hg htt htb hids hlist hidnat hT1' hT1 hT2 htbin hPR hR hok hrel hlen hnfit hT;refine (callsIn_wide (n:=0)).1 ?_;refine callsIn_of_wp_marks (n:=0) Tryz.func140 rfl trivial ?_ rfl;simp only[Tryz.ntmps140,jS,yB,yC,Nat.reduceAdd,Nat.reduceSub,kDb,Array.replicate_zero,kK,kF,List.nil_append,List.cons_append];refine wpIn_wide.2 ?_;go_wp2_with (first|(go_at_call 156;((with_reducible refine yI (ueach_any _ _) ?_);rintro e w1 ⟨rfl,rfl⟩;have hS2:=hS.alloc (.cells #[vPt g] 180);clear hS;have hS:=hS2;clear hS2;generalize (World.heap w).size=Y at *;generalize World.alloc w _=w1 at *))|((with_reducible refine Qu ?_);first|((with_reducible refine isBoxD 3 ?_);refine bx hS rfl rfl rfl ?_;clear hS;intro X3 w hS;(try simp only[Act.eval,zD,zC,zB,zJ,Value.cells] at hS);(try simp only[Act.put,zE,zF,zG]))|((with_reducible refine isBoxD 5 ?_);refine bx hS rfl rfl rfl ?_;clear hS;intro X5 w hS;(try simp only[Act.eval,zD,zC,zA,zB,zJ,Value.cells] at hS);(try simp only[Act.put,zE,zF,zG]))|((with_reducible refine Xi 7 ?_);(refine' al (z:=_) hS rfl rfl ?ha ?_);(case ha=>exact ty_z220);clear hS;intro XO w hS;(try simp only[Value.cells] at hS);(try simp only[Act.put,zE,zF,zG]))|((with_reducible refine Qe ?_);(first|(refine ld1 2 hS rfl rfl ?ha rfl rfl rfl ?_;(case ha =>  exact ty_agg113 ))|((refine' ldI1 (v:=_) hS rfl rfl ?ha rfl ?hb ?_);(case ha=>first|exact ty_agg162|exact ty_agg180);(case hb=>assumption)));(try simp only[Act.put,zE,zF,zG])) ))
 have hSp:Sat E I (PH.one Y (.cells #[vPt g] 180)::PH.one X5 (.cells #[nv y] 3)::PH.one X3 (.cells #[vPt S] 113)::PH.one XO (.cells #[.slice none 0 0] 220)::ms) w1 :=
  hS.perm (List.Perm.cons _ ((List.Perm.swap _ _ _).trans (List.Perm.cons _ (List.Perm.swap _ _ _))))
 clear hS;obtain⟨J1,l1,lY,hS1,bY⟩:=hSp.ice;obtain⟨J2,l2,lX5,hS2,bX5⟩:=hS1.ice;obtain⟨J3,l3,lX3,hS3,bX3⟩:=hS2.ice;have hle:I.le J3:=(l1.trans l2).trans l3;have hIY:J3.at Y 0=some (vPt g):=PH.at_le ((lY.trans l2).trans l3) (Qb rfl);have hI5:J3.at X5 0=some (nv y):=PH.at_le (lX5.trans l3) (Qb rfl);have hI3:J3.at X3 0=some (vPt S):=PH.at_le lX3 (Qb rfl);have hTJ:=HTb.out.le hle;have hiS1:J3.at S 1=some (vPt P):=PH.at_le hle iS1;have Hle:=yH hle;have hback:∀ns w',Sat E J3 ns w'->Sat E I ns w':=λns w' h=>(((bY _ _ (bX5 _ _ (bX3 _ _ h))).drop).drop).drop
 have Hback:=yH hback;have hSt:Sat E J3 (ms++[λ_=>none,PH.one XO (.cells #[.slice none 0 0] 220)]) w1:=hS3.empty.perm (jIb (l₁:=[_,_]));have hKI:∀b,(b=Y\/b=g\/b=M)->J3 b≠none:=by
  rintro b (rfl|rfl|rfl)
  . obtain⟨o,ho,_⟩:=PH.at_obj hIY;rw[ho];simp
  . obtain⟨o,ho,_⟩:=PH.at_obj hTJ.v;rw[ho];simp
  . rw[hTJ.m];simp
 have hit:=each1_iterA w1 Y g M es c Hok.out hes (PH.at_le hSt.ile hIY) (PH.at_le hSt.ile hTJ.v) (hSt.ile _ _ hTJ.m);have hIlt:∀b o,J3 b=some o->b<w1.heap.size:=λb o hb=>hSt.ilt hb
 have hrolt:∀p∈ms,∀b o,p b=some o->b<w1.heap.size:=λp hp b o hb=>hSt.lt (jRa _ hp) hb
 have hKlt:∀b,(b=Y\/b=g\/b=M)->b<w1.heap.size:=λb hb=>by
  cases h:J3 b with
  | none=>exact absurd h (hKI b hb)
  | some o=>exact hIlt b o h
 clear hSp hS1 hS2 hS3 bY bX5 bX3 l1 l2 l3 lY lX5 lX3 hle hback hTJ iT h3 iS1;generalize hsrt:srtE es=srt at *
 refine (wpIn_wide (n:=0)).1 ?_;refine rangeFunc_law (K:=λb=>b=Y\/b=g\/b=M) (gf:=166) (lb := #[.pointer (some ⟨Y,0,none⟩)]) (w0:=w1) rfl (enters_of Tryz.func166 (by kernel_rfl) rfl)
  hit (Keeps.refl _ _) hKlt ?hps
  (λS pre W'=>TnD s y es E J3 ms XO pre S W') (λS cd _ W'=>False) ?hI ?hIx ?start
  (λk a' W'=>a'=⟨#[vPt S,nv x,nv y,Value.pointer (some { block:=X3,off:=0 }),undef,Value.pointer (some { block:=X5,off:=0 }),Value.slice none 0 0,Value.pointer (some { block:=XO,off:=0 }),undef,.int .i64 (idE es k),undef,undef,undef,vPt S,vPt S,Value.pointer (some { block:=S,off:=2 }),Value.slice (some ⟨TT,0,none⟩) s.tabs.length cT,nv x,Value.pointer (some { block:=TT,off:=x }),vPt g,Value.func (Fn.func 166) #[] #[Value.pointer (some { block:=Y,off:=0 })],ekey k,.int .i64 (idE es k),undef,undef,undef,undef,undef,undef,undef,undef,undef,undef,undef,undef,undef,undef,undef,undef,undef,undef,undef,undef,undef,undef,undef,undef,undef,undef,undef,undef,undef,undef,undef,undef,undef,undef,undef,undef,undef,undef,undef,undef,undef,undef,undef,undef,undef,undef,undef,undef],[]⟩) ?hAx ?assign ?body ?done ?stop
 case hps=>exact λ_=>rfl
 case hI =>
  rintro S pre A B row ⟨mm,v,ts,h0,h1,h2,h3⟩ hg hr;refine⟨mm,v,ts,h0,h1,h2.turn hg hr (λb o hb=>.inl (hIlt b o hb)) (λp hp b o hb=>?_),h3⟩;rcases jH.1 hp with hp|hp
  . exact .inl (hrolt p hp b o hb)
  . simp only[jBa,jCa,jJb] at hp
    rcases hp with rfl|rfl
    . exact .inr (h1.isCells b o hb)
    . exact .inr (PH.one_isCells b o hb)
 case hIx=>exact λS c s A B row h=>h.elim
 case start =>
  intro S W' hb hst;refine⟨λ_=>none,.slice none 0 0,[],rfl,OwnP.nil _ _,hSt.below_ hb,λp hp b hSb=>?_⟩;cases hpb:p b with
  | none=>rfl
  | some o =>
    exfalso
    rcases hst.2 b hSb with h|h
    . rcases hSt.sep p hp b with h4|h4
      . rw[hpb] at h4;cases h4
      . exact hKI b h h4
    . have:=hSt.lt hp hpb;omega
 case hAx=>exact λk a' s X Y' row h _ _=>h
 case assign =>
  intro l' S pre k suf W' K' hxs hSl hKS hi hK;have HK:=λa'=>hK a' W' (Keeps.refl _ _) hi
  clear hK;unfold encY
  gi_wp2
  exact rfl
 case body =>
  rintro l' S9 pre k suf a' W' hxs hSl hKS ⟨mm,v,ts,hts,hO,hSr,hap⟩ rfl;obtain⟨I1,hI1,hS9,hfull⟩:=hSr.full;have hkm:k∈srt:=by rw[hxs];simp
  obtain⟨id,hid,hnd⟩:=Hidnat.out k hkm;cases hn:s.nd id with
  | none=>rw[hn] at hnd;cases hnd
  | some n =>
  have hnf:=Hfit.out.nd id n (G.Pl.nd_some.1 hn).2;have hpre:pre.length<1000000:=by have:=jNa List.length hxs;rw[yG,yB] at this;omega
  have hgp:ts.length<=pre.length:=by rw[hts];exact jFb (List.length_filterMap_le _ _) (by simp)
  have hsn:((pre++[k]).map λk=>(idE es k).toNat).filterMap (s.tdOf y)=ts++(s.tdOf y id).toList:=by
   rw[jGa,List.filterMap_append,<- hts];simp only[jDb,jZ,hid,Int.toNat_natCast];rw[List.filterMap_cons,List.filterMap_nil];cases s.tdOf y id <;> rfl
  rw[hid];obtain⟨A0,c0',rfl,hc0⟩:=hO.shape;have hRJ:=(HR.out.le Hle.out).le hI1;have hPJ:=(HPR.out.le Hle.out).le hI1;have q1:I1.at S 1=some (vPt P):=PH.at_le hI1 hiS1;have q2:I1.at X3 0=some (vPt S):=PH.at_le hI1 hI3;have q3:I1.at X5 0=some (nv y):=PH.at_le hI1 hI5;have hpat:=λ(w':World) (hle:I1.le (Qa w'))=>pat_nat (hPJ.le hle) id
  rw[show s.pl.nd id=some n from hn] at hpat;have HPat:=yH (show ∀(w':World),I1.le (Qa w')->Calls Tryz.prog 128 #[vPt P,nv id] w' λe w''=>e=.returned (.tuple #[.agg #[nv id,nv n.v,nv n.lo,nv n.hi,nv n.refs],.bool true])/\Below w'.heap.size w' w'' from hpat);have HSl:=yH (λ(w':World) (hle:I1.le (Qa w'))=>ssplit_any (hRJ.le hle) n.lo y (by have:=hnf.2.1;omega));have HSh:=yH (λ(w':World) (hle:I1.le (Qa w'))=>ssplit_any (hRJ.le hle) n.hi y (by have:=hnf.2.2.1;omega));have htd:s.tdOf y id=if (s.split n.lo y).1≠(s.split n.lo y).2\/(s.split n.hi y).1≠(s.split n.hi y).2 then some ⟨id,n,(s.split n.lo y).1,(s.split n.lo y).2,(s.split n.hi y).1,(s.split n.hi y).2⟩ else none:=by unfold G.St.tdOf;rw[hn]
  generalize hpl1:s.split n.lo y=p1 at *
  generalize hpl2:s.split n.hi y=p2 at *
  obtain⟨ll,lh⟩:=p1;obtain⟨hl,hh⟩:=p2;simp only[] at HSl HSh htd;have Hsn:=yH hsn;have Htd:=yH htd;have Hfull:=yH hfull;have Hap:=yH hap;have HSr:=yH hSr;have HI1:=yH hI1;have HO:=yH hO;have hS:=hS9.perm (jIb (l₁:=ms));simp only[List.cons_append,List.nil_append] at hS;clear hxs hfull hap hSr hO hsn htd hI1 hS9 hkm hid hnd hn hnf hts hc0 hRJ hPJ hpat hit hpl1 hpl2 hSt hiS1 hI3 hI5 hIY;have hgl0:ts.length<=1000000:=by omega
  have p0:(0:Int)<=(ts.length:Int):=by omega
  have p1:(ts.length:Int)<=1000000:=by omega
  by_cases e1:ll=lh
  . by_cases e2:hl=hh
    . have hnone:¬(ll≠lh\/hl≠hh):=by omega
      have Hnone:=yH hnone;clear hnone;subst e1 e2
      gi_wp2_with (first|((with_reducible refine Zt (HPat.out _ hS.ile) ?_);rintro e w2 ⟨rfl,hb⟩;replace hS:=hS.below_ hb;clear hb)|((with_reducible refine Zt (HSl.out _ hS.ile) ?_);rintro e w2 ⟨rfl,hb⟩;replace hS:=hS.below_ hb;clear hb)|((with_reducible refine Zt (HSh.out _ hS.ile) ?_);rintro e w2 ⟨rfl,hb⟩;replace hS:=hS.below_ hb;clear hb)|((with_reducible refine risStore ?_);(refine wp_st1 hS 0 rfl rfl rfl rfl ty_sz102 rfl rfl ?hb ?_);(case hb=>(simp;done));clear hS;intro w hS;(try simp only[zF,zG,zE,Act.eval,zD,zC,zA,zB,zJ] at hS);(try simp only[Act.put]);have c7:w.cell? ⟨XT,7,none⟩=some _:=(hS.cell_of (List.Mem.head _) 7).trans rfl;have c8:w.cell? ⟨XT,8,none⟩=some _:=(hS.cell_of (List.Mem.head _) 8).trans rfl)|((with_reducible refine ratList ?_);first|((with_reducible refine risAllocD 10 ?_);(refine' wp_al (z:=_) hS rfl ?ha ?_);(case ha =>  exact Xb );clear hS;intro XN w hS;(try simp only[Value.cells] at hS);refine aM ?_)|((with_reducible refine risAllocD 12 ?_);(refine' wp_al (z:=_) hS rfl ?ha ?_);(case ha =>  exact ty_z225 );clear hS;intro XT w hS;(try simp only[Value.cells] at hS);refine aM ?_)|((with_reducible refine risLoad ?_);(first|(refine wp_k1 0 hS rfl ?ha rfl rfl rfl ?_;(case ha =>  exact Yi ))|(refine wp_k1 1 hS rfl ?ha rfl rfl rfl ?_;(case ha =>  exact Qh ))|(refine wp_kN 0 hS rfl ?ha rfl rfl ?hb ?_;(case ha =>  exact ty_agg194 );(case hb =>  exact Qz ))|((refine' wp_i1 (v:=_) hS rfl ?ha rfl ?hb ?_);(case ha=>first|exact ty_agg161|exact ty_agg113|exact Qh );(case hb=>assumption)) );refine aM ?_)|((with_reducible refine risStore ?_);( (refine wp_stN hS 0 rfl rfl rfl rfl ?ha rfl ?hb ?_;(case ha=>first|exact Qz|exact ty_sz225);(case hb=>(simp[Act.eval,Value.cells,Value.oneCell'];done))) );clear hS;intro w hS;(try simp only[zG,Act.eval,zD,zC,zA,zB,zJ,Value.cells] at hS);(try simp only[Act.put])) ))
      have hS2:=hS.drop.drop.perm (jIb (l₁:=[mm,PH.one XO (.cells #[.slice A0 ts.length c0'] 220)]) (l₂:=ms));obtain⟨hk,hap'⟩:=Sat.keeps Hfull.out hSl Hap.out (PH.le.refl _) hS2;refine⟨hk,mm,.slice A0 ts.length c0',ts,?_,HO.out,(HSr.out.unbase hS2).less HI1.out,hap'⟩;rw[Hsn.out,Htd.out,jAa Hnone.out];exact (jZb _).symm
    . subst e1
      have e2i:¬(hl:Int)=(hh:Int):=by omega
      have e2b:((hl:Int)==(hh:Int))=false:=by simpa using e2i
      have hsome:ll≠ll\/hl≠hh:=.inr e2;have Hsome:=yH hsome;clear hsome;have hO:=HO.out
      gi_wp2_with (first|((with_reducible refine Zt (HPat.out _ hS.ile) ?_);rintro e w2 ⟨rfl,hb⟩;replace hS:=hS.below_ hb;clear hb)|((with_reducible refine Zt (HSl.out _ hS.ile) ?_);rintro e w2 ⟨rfl,hb⟩;replace hS:=hS.below_ hb;clear hb)|((with_reducible refine Zt (HSh.out _ hS.ile) ?_);rintro e w2 ⟨rfl,hb⟩;replace hS:=hS.below_ hb;clear hb)|((with_reducible refine risStore ?_);(refine wp_st1 hS 0 rfl rfl rfl rfl ty_sz102 rfl rfl ?hb ?_);(case hb=>(simp;done));clear hS;intro w hS;(try simp only[zF,zG,zE,Act.eval,zD,zC,zA,zB,zJ] at hS);(try simp only[Act.put]);have c7:w.cell? ⟨XT,7,none⟩=some _:=(hS.cell_of (List.Mem.head _) 7).trans rfl;have c8:w.cell? ⟨XT,8,none⟩=some _:=(hS.cell_of (List.Mem.head _) 8).trans rfl)|((with_reducible refine risAppend ?_);(refine' wp_apP (p:=_) (m:=_) (v:=_) (n:=_) (xs:=_) (news:=_) hS 3 rfl (.inr (List.Mem.head _)) rfl Tryz.underlying220 turned_info rfl (by decide) rfl ?hown rfl ?hl ?hcl ?h1 ?h63 ?hby ?_);(case hown=>assumption);(case hcl=>exact Cells.one _ _ _ _);(case hl=>rfl);(case h1=>rfl);(case h63=>go_light;unfold maxLen;omega);(case hby=>go_light;omega);clear hS hO;intro v1 m1 w hO hS;refine Veil.out ?_;obtain⟨A1,c1,rfl,_⟩:=OwnP.shape hO;refine⟨?_⟩;(try simp only[zF,zG] at hS);refine aM ?_)|((with_reducible refine ratList ?_);first|((with_reducible refine risAllocD 10 ?_);(refine' wp_al (z:=_) hS rfl ?ha ?_);(case ha =>  exact Xb );clear hS;intro XN w hS;(try simp only[Value.cells] at hS);refine aM ?_)|((with_reducible refine risAllocD 12 ?_);(refine' wp_al (z:=_) hS rfl ?ha ?_);(case ha =>  exact ty_z225 );clear hS;intro XT w hS;(try simp only[Value.cells] at hS);refine aM ?_)|((with_reducible refine risLoad ?_);(first|(refine wp_k1 0 hS rfl ?ha rfl rfl rfl ?_;(case ha =>  exact Yi ))|(refine wp_k1 1 hS rfl ?ha rfl rfl rfl ?_;(case ha =>  exact Qh ))|(refine wp_k1 3 hS rfl ?ha rfl rfl rfl ?_;(case ha =>  exact ty_agg220))|(refine wp_kN 0 hS rfl ?ha rfl rfl ?hb ?_;(case ha=>first|exact ty_agg194|exact ty_agg225);(case hb=>first|exact Qz|exact ty_sz225))|((refine' wp_i1 (v:=_) hS rfl ?ha rfl ?hb ?_);(case ha=>first|exact ty_agg161|exact ty_agg113|exact Qh );(case hb=>assumption)) );refine aM ?_)|((with_reducible refine risStore ?_);(first|(refine wp_st1 hS 4 rfl rfl rfl rfl ?ha rfl rfl ?hb ?_;(case ha =>  exact ty_sz220);(case hb=>(simp;done)))|(refine wp_stN hS 0 rfl rfl rfl rfl ?ha rfl ?hb ?_;(case ha=>first|exact Qz|exact ty_sz225);(case hb=>(simp[Act.eval,Value.cells,Value.oneCell'];done))) );clear hS;intro w hS;(try simp only[zF,zG,zE,Act.eval,zD,zC,zA,zB,zJ,Value.cells] at hS);(try simp only[Act.put]))|((with_reducible refine risBuildSlice ?_);(refine' wp_bsl hS ?hr ?_);(case hr=>(intro w0;go_simp;rfl));clear hS;intro XS w hS;refine aM ?_)))
      have hS2:=hS.drop.drop.drop.perm (jIb (l₁:=[m1,PH.one XO (.cells #[.slice A1 (ts.length+1) c1] 220)]) (l₂:=ms));obtain⟨hk,hap'⟩:=Sat.keeps Hfull.out hSl Hap.out (PH.le.refl _) hS2;refine⟨hk,m1,.slice A1 (ts.length+1) c1,ts++[⟨id,n,ll,ll,hl,hh⟩],?_,?_,(HSr.out.unbase hS2).less HI1.out,hap'⟩
      . rw[Hsn.out,Htd.out,jAb Hsome.out];rfl
      . have hO2:OwnP m1 225 9 (.slice A1 (ts.length+1) c1) (ts.length+1) (ts.flatMap tdC++tdC ⟨id,n,ll,ll,hl,hh⟩):=hO
        simpa using hO2
  . have e1i:¬(ll:Int)=(lh:Int):=by omega
    have e1b:((ll:Int)==(lh:Int))=false:=by simpa using e1i
    have hsome:ll≠lh\/hl≠hh:=.inl e1;have Hsome:=yH hsome;clear hsome;have hO:=HO.out
    gi_wp2_with (first|((with_reducible refine Zt (HPat.out _ hS.ile) ?_);rintro e w2 ⟨rfl,hb⟩;replace hS:=hS.below_ hb;clear hb)|((with_reducible refine Zt (HSl.out _ hS.ile) ?_);rintro e w2 ⟨rfl,hb⟩;replace hS:=hS.below_ hb;clear hb)|((with_reducible refine Zt (HSh.out _ hS.ile) ?_);rintro e w2 ⟨rfl,hb⟩;replace hS:=hS.below_ hb;clear hb)|((with_reducible refine risStore ?_);(refine wp_st1 hS 0 rfl rfl rfl rfl ty_sz102 rfl rfl ?hb ?_);(case hb=>(simp;done));clear hS;intro w hS;(try simp only[zF,zG,zE,Act.eval,zD,zC,zA,zB,zJ] at hS);(try simp only[Act.put]);have c7:w.cell? ⟨XT,7,none⟩=some _:=(hS.cell_of (List.Mem.head _) 7).trans rfl;have c8:w.cell? ⟨XT,8,none⟩=some _:=(hS.cell_of (List.Mem.head _) 8).trans rfl)|((with_reducible refine risAppend ?_);(refine' wp_apP (p:=_) (m:=_) (v:=_) (n:=_) (xs:=_) (news:=_) hS 3 rfl (.inr (List.Mem.head _)) rfl Tryz.underlying220 turned_info rfl (by decide) rfl ?hown rfl ?hl ?hcl ?h1 ?h63 ?hby ?_);(case hown=>assumption);(case hcl=>exact Cells.one _ _ _ _);(case hl=>rfl);(case h1=>rfl);(case h63=>go_light;unfold maxLen;omega);(case hby=>go_light;omega);clear hS hO;intro v1 m1 w hO hS;refine Veil.out ?_;obtain⟨A1,c1,rfl,_⟩:=OwnP.shape hO;refine⟨?_⟩;(try simp only[zF,zG] at hS);refine aM ?_)|((with_reducible refine ratList ?_);first|((with_reducible refine risAllocD 10 ?_);(refine' wp_al (z:=_) hS rfl ?ha ?_);(case ha =>  exact Xb );clear hS;intro XN w hS;(try simp only[Value.cells] at hS);refine aM ?_)|((with_reducible refine risAllocD 12 ?_);(refine' wp_al (z:=_) hS rfl ?ha ?_);(case ha =>  exact ty_z225 );clear hS;intro XT w hS;(try simp only[Value.cells] at hS);refine aM ?_)|((with_reducible refine risLoad ?_);(first|(refine wp_k1 0 hS rfl ?ha rfl rfl rfl ?_;(case ha =>  exact Yi ))|(refine wp_k1 1 hS rfl ?ha rfl rfl rfl ?_;(case ha =>  exact Qh ))|(refine wp_k1 3 hS rfl ?ha rfl rfl rfl ?_;(case ha =>  exact ty_agg220))|(refine wp_kN 0 hS rfl ?ha rfl rfl ?hb ?_;(case ha=>first|exact ty_agg194|exact ty_agg225);(case hb=>first|exact Qz|exact ty_sz225))|((refine' wp_i1 (v:=_) hS rfl ?ha rfl ?hb ?_);(case ha=>first|exact ty_agg161|exact ty_agg113|exact Qh );(case hb=>assumption)) );refine aM ?_)|((with_reducible refine risStore ?_);(first|(refine wp_st1 hS 4 rfl rfl rfl rfl ?ha rfl rfl ?hb ?_;(case ha =>  exact ty_sz220);(case hb=>(simp;done)))|(refine wp_stN hS 0 rfl rfl rfl rfl ?ha rfl ?hb ?_;(case ha=>first|exact Qz|exact ty_sz225);(case hb=>(simp[Act.eval,Value.cells,Value.oneCell'];done))) );clear hS;intro w hS;(try simp only[zF,zG,zE,Act.eval,zD,zC,zA,zB,zJ,Value.cells] at hS);(try simp only[Act.put]))|((with_reducible refine risBuildSlice ?_);(refine' wp_bsl hS ?hr ?_);(case hr=>(intro w0;go_simp;rfl));clear hS;intro XS w hS;refine aM ?_)))
    have hS2:=hS.drop.drop.drop.perm (jIb (l₁:=[m1,PH.one XO (.cells #[.slice A1 (ts.length+1) c1] 220)]) (l₂:=ms));obtain⟨hk,hap'⟩:=Sat.keeps Hfull.out hSl Hap.out (PH.le.refl _) hS2;refine⟨hk,m1,.slice A1 (ts.length+1) c1,ts++[⟨id,n,ll,lh,hl,hh⟩],?_,?_,(HSr.out.unbase hS2).less HI1.out,hap'⟩
    . rw[Hsn.out,Htd.out,jAb Hsome.out];rfl
    . have hO2:OwnP m1 225 9 (.slice A1 (ts.length+1) c1) (ts.length+1) (ts.flatMap tdC++tdC ⟨id,n,ll,lh,hl,hh⟩):=hO
      simpa using hO2
 case stop=>exact λD S c pre W h1 h2 h3 h4=>h4.elim
 case done =>
  rintro D S9 W3 hD hSS ⟨mm,v,ts,hts,hO,hSr,hap⟩ hd;have hTe:T=ts:=by rw[HT1.out,hts]
  have hS:=hSr.perm (jIb (l₁:=ms));simp only[List.cons_append,List.nil_append] at hS;obtain⟨A0,c0,rfl,_⟩:=hO.shape;have HO:=yH hO;have HSr:=yH hSr;have HTe:=yH hTe;clear hO hSr hap hTe hts;go_wp2_with (first|(refine aL ?_))
  have hT:Sat E J3 (ms++[mm,PH.one XO (.cells #[.slice A0 ts.length c0] 220)]) (W3.putObj D (.deferred none)):=by
   refine HSr.out.turn (B:=w1.heap.size) (grownBy_putObj' W3 D _) (λr e=>by cases e;exact⟨hD,_,hd,rfl⟩) (λb o hb=>.inl (hIlt b o hb)) (λp hp b o hb=>?_);rcases jH.1 hp with hp|hp
   . exact .inl (hrolt p hp b o hb)
   . simp only[jBa,jCa,jJb] at hp
     rcases hp with rfl|rfl
     . exact .inr (HO.out.isCells b o hb)
     . exact .inr (PH.one_isCells b o hb)
  have hF:=(hT.perm (jIb (l₁:=ms)));have hG:=Hback.out _ _ (hF.sub (List.Sublist.cons_cons mm (List.Sublist.cons _ (kBb ms))));clear hF hT hS;refine⟨by simp,.inl ⟨_,_,rfl,run_takeDeferred hd,?_⟩⟩;refine⟨_,(results_tmp Tryz.results140 _ _ _),_,mm,rfl,?_,hG⟩;rw[HTe.out];exact HO.out
end
end Go.Proofs.YtidamcdklgfogaaGreat
