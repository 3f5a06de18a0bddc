import Derived.Test.YtidamcdklgfogaaGreatUah
set_option linter.unusedVariables false
set_option linter.unusedSimpArgs false
set_option maxRecDepth 100000
set_option maxHeartbeats 1000000
namespace Go.Proofs.YtidamcdklgfogaaGreat
section
open Go.RowKit
theorem ty_agg113:Ky Tryz.prog 113=some false:=by kernel_rfl
theorem ty_agg115:Ky Tryz.prog 115=some false:=by kernel_rfl
theorem ty_agg36:Ky Tryz.prog 36=some false:=by kernel_rfl
theorem ty_agg85:Ky Tryz.prog 85=some true:=by kernel_rfl
theorem ty_sz85:Kg Tryz.prog 85=some 3:=by kernel_rfl
theorem ty_z85:Xh Tryz.prog 85=some (.agg #[.int .i64 0,.int .i64 0,.int .i64 0]):=by kernel_rfl
theorem kI:Key Tryz.prog 3 ikey:=key_int Tryz.underlying3
def h0R:List (Rw Int):=[⟨0,.int .i64 1,0⟩]
theorem h0R_ok:MapOk h0R 1:=⟨by decide,by decide,by decide⟩
def Xe(S M H:Nat)(next:Int)(waits:Value)(calls:Int):Array Value := #[vPt S,vPt M,.map (some H),.int .i64 next,waits,.int .i64 calls]
end
section
open Go.RowKit
def entI(e:G.Ent):Int×Int×Int:=(e.lo,e.hi,e.id)
def enI(e:En):Int×Int×Int:=(e.lo,e.hi,e.id)
def TRel(es:List En)(t:List G.Ent):Prop:=es.map enI=t.map entI
theorem TRel.cons{e:En}{es:List En}{t:List G.Ent}(h:TRel (e::es) t):∃f t',t=f::t'/\e.lo=f.lo/\e.hi=f.hi/\e.id=f.id/\TRel es t':=by
 unfold TRel at h;cases t with
 | nil=>cases h
 | cons f t =>
   rw[jDb,jDb] at h;injection h with h1 h2
   simp only[enI,entI,jIa] at h1;exact⟨f,t,rfl,h1.1,h1.2.1,h1.2.2,h2⟩
theorem TRel.nil{t:List G.Ent}(h:TRel [] t):t=[]:=by
 unfold TRel at h;cases t with
 | nil=>rfl
 | cons f t=>cases h
theorem TRel.len{es:List En}{t:List G.Ent}(h:TRel es t):es.length=t.length:=by simpa using jNa List.length h
theorem TRel.find:∀{es:List En} {t:List G.Ent},TRel es t->∀lo hi:Nat,findE es lo hi=(G.findT t lo hi).map (λn:Nat=>(n:Int))
 | [],t,h,lo,hi=>by rw[h.nil];rfl
 | e::es,t,h,lo,hi=>by
   obtain⟨f,t',rfl,h1,h2,h3,h4⟩:=h.cons;have ih:=h4.find lo hi;unfold findE G.findT at *
   by_cases hc:f.lo=lo/\f.hi=hi
   . have e1:decide ((e.lo,e.hi)=((lo:Int),(hi:Int)))=true:=by simp[h1,h2,hc.1,hc.2]
     have e2:(f.lo==lo&&f.hi==hi)=true:=by simp[hc.1,hc.2]
     simp only[List.find?_cons,e1,e2];simp[h3]
   . have e1:decide ((e.lo,e.hi)=((lo:Int),(hi:Int)))=false:=by
       simp only[jD,jIa,h1,h2];rintro⟨g1,g2⟩;exact hc ⟨by omega,by omega⟩
     have e2:(f.lo==lo&&f.hi==hi)=false:=by
      simp only[Bool.and_eq_false_iff,jGb];by_cases g:f.lo=lo
      . exact .inr λg2=>hc ⟨g,g2⟩
      . exact .inl g
     simp only[List.find?_cons,e1,e2];exact ih
theorem TRel.put{es:List En}{t:List G.Ent}(h:TRel es t){lo hi id c:Nat}(hf:G.findT t lo hi=none):TRel (putE es lo hi id c) (G.putT t lo hi id):=by
 unfold G.putT;rw[hf];unfold TRel putE at *
 rw[jGa,jGa,h];rfl
theorem TRel.cut:∀{es:List En} {t:List G.Ent},TRel es t->∀lo hi:Nat,TRel (cutE es lo hi) (G.cutT t lo hi)
 | [],t,h,lo,hi=>by rw[h.nil];rfl
 | e::es,t,h,lo,hi=>by
   obtain⟨f,t',rfl,h1,h2,h3,h4⟩:=h.cons;have ih:=h4.cut lo hi;unfold cutE G.cutT at *
   by_cases hc:f.lo=lo/\f.hi=hi
   . have e1:decide ((e.lo,e.hi)≠((lo:Int),(hi:Int)))=false:=by simp[h1,h2,hc.1,hc.2]
     have e2:(!(f.lo==lo&&f.hi==hi))=false:=by simp[hc.1,hc.2]
     simp only[kLa,e1,e2,jFa,jOb];exact ih
   . have e1:decide ((e.lo,e.hi)≠((lo:Int),(hi:Int)))=true:=by
       simp only[jPa,ne_eq,jIa,h1,h2];rintro⟨g1,g2⟩;exact hc ⟨by omega,by omega⟩
     have e2:(!(f.lo==lo&&f.hi==hi))=true:=by
      simp only[kNa,Bool.and_eq_false_iff,jGb];by_cases g:f.lo=lo
      . exact .inr λg2=>hc ⟨g,g2⟩
      . exact .inl g
     simp only[kLa,e1,e2,jEb];unfold TRel at *
     rw[jDb,jDb,ih];simp only[enI,entI,h1,h2,h3]
def TabAt(g:Nat)(t:List G.Ent)(m:PH):Prop:=∃M es c,Bd m [tbv g M,tbm M es c]/\MapOk (rows es) c/\TRel es t
def TabR(I:PH)(g:Nat)(t:List G.Ent):Prop:=∃M es c,TbIn I g M es c/\MapOk (rows es) c/\TRel es t
theorem TabR.le{I J:PH}{g:Nat}{t:List G.Ent}(h:TabR I g t)(hJ:I.le J):TabR J g t:=by
 obtain⟨M,es,c,h1,h2⟩:=h;exact⟨M,es,c,h1.le hJ,h2⟩
theorem TabAt.read{g:Nat}{t:List G.Ent}{m:PH}(h:TabAt g t m):TabR m g t:=by
 obtain⟨M,es,c,⟨rfl,hd⟩,h2⟩:=h;exact⟨M,es,c,⟨PH.at_le (PH.all_mem hd (.head _)) (Qb rfl),PH.all_mem hd (.tail _ (.head _)) _ _ (PH.one_self _ _)⟩,h2⟩
theorem tfind_any{w:World}{g:Nat}{t:List G.Ent}(h:TabR (Qa w) g t)(lo hi:Nat) :
  Calls Tryz.prog 134 #[vPt g,nv lo,nv hi] w λe w'=>e=.returned (.tuple #[nv ((G.findT t lo hi).getD 0),.bool (G.findT t lo hi).isSome])/\w=w':=by
 obtain⟨M,es,c,h1,_,h3⟩:=h;refine (find_any w g M es c lo hi h1).mono ?_;rintro e w' ⟨rfl,rfl⟩;refine⟨?_,rfl⟩;rw[h3.find lo hi];cases G.findT t lo hi <;> rfl
theorem tput_yes{E w:World}{I m:PH}{ms:List PH}{g:Nat}{t:List G.Ent}(hT:TabAt g t m)(lo hi id:Nat)(hf:G.findT t lo hi=none)(hS:Sat E I (m::ms) w) :
  Calls Tryz.prog 148 #[vPt g,nv lo,nv hi,nv id] w λe w'=>e=.returned (.int .i64 0)/\∃m',TabAt g (G.putT t lo hi id) m'/\Sat E I (m'::ms) w':=by
 obtain⟨M,es,c,hb,hok,hr⟩:=hT;have hS:=Sat.unpack hb hS;have hfe:findE es lo hi=none:=by rw[hr.find,hf];rfl
 refine (put_yes E w I ms g M es c lo hi id hS hok hfe).mono ?_;rintro e w' ⟨rfl,hS'⟩;obtain⟨m',hb',hS''⟩:=Sat.pack [tbv g M,tbm M (putE es lo hi id c) (c+1)] hS';exact⟨rfl,m',⟨M,_,_,hb',hok.pute hfe id,hr.put hf⟩,hS''⟩
theorem tput_no{E w:World}{I m:PH}{ms:List PH}{g:Nat}{t:List G.Ent}(hT:TabAt g t m)(lo hi id i:Nat)(hf:G.findT t lo hi=some i)(hS:Sat E I (m::ms) w) :
  Calls Tryz.prog 148 #[vPt g,nv lo,nv hi,nv id] w λe w'=>e=.returned (.int .i64 6)/\w=w':=by
 obtain⟨M,es,c,hb,hok,hr⟩:=hT;exact put_no E w I ms g M es c lo hi id i (Sat.unpack hb hS) (by rw[hr.find,hf];rfl)
theorem tcut_yes{E w:World}{I m:PH}{ms:List PH}{g:Nat}{t:List G.Ent}(hT:TabAt g t m)(lo hi i:Nat)(hf:G.findT t lo hi=some i)(hS:Sat E I (m::ms) w) :
  Calls Tryz.prog 145 #[vPt g,nv lo,nv hi] w λe w'=>e=.returned (.int .i64 0)/\∃m',TabAt g (G.cutT t lo hi) m'/\Sat E I (m'::ms) w':=by
 obtain⟨M,es,c,hb,hok,hr⟩:=hT;have hS:=Sat.unpack hb hS;refine (cut_yes E w I ms g M es c lo hi i hS hok (by rw[hr.find,hf];rfl)).mono ?_;rintro e w' ⟨rfl,hS'⟩;obtain⟨m',hb',hS''⟩:=Sat.pack [tbv g M,tbm M (cutE es lo hi) c] hS';exact⟨rfl,m',⟨M,_,_,hb',hok.cute lo hi,hr.cut lo hi⟩,hS''⟩
theorem cutT_none{t:List G.Ent}{lo hi:Nat}(h:G.findT t lo hi=none):G.cutT t lo hi=t:=by
 unfold G.findT at h;rw[Option.map_eq_none_iff,kAa] at h;unfold G.cutT;rw[kZb];intro e he
 have:=h e he;simp only[Bool.not_eq_true] at this;rw[this];rfl
theorem tcut_any{E w:World}{I m:PH}{ms:List PH}{g:Nat}{t:List G.Ent}(hT:TabAt g t m)(lo hi:Nat)(hS:Sat E I (m::ms) w) :
  Calls Tryz.prog 145 #[vPt g,nv lo,nv hi] w λe w'=>(∃c,e=.returned (.int .i64 c))/\∃m',TabAt g (G.cutT t lo hi) m'/\Sat E I (m'::ms) w':=by
 cases hf:G.findT t lo hi with
 | some i =>
   refine (tcut_yes hT lo hi i hf hS).mono ?_;rintro e w' ⟨rfl,h⟩;exact⟨⟨_,rfl⟩,h⟩
 | none =>
   obtain⟨M,es,c,hb,hok,hr⟩:=id hT;refine (cut_no E w I ms g M es c lo hi (Sat.unpack hb hS) (by rw[hr.find,hf];rfl)).mono ?_;rintro e w' ⟨rfl,rfl⟩;rw[cutT_none hf];exact⟨⟨_,rfl⟩,m,hT,hS⟩
theorem tput_any{E w:World}{I m:PH}{ms:List PH}{g:Nat}{t:List G.Ent}(hT:TabAt g t m)(lo hi id:Nat)(hS:Sat E I (m::ms) w) :
  Calls Tryz.prog 148 #[vPt g,nv lo,nv hi,nv id] w λe w'=>(∃c,e=.returned (.int .i64 c))/\∃m',TabAt g (G.putT t lo hi id) m'/\Sat E I (m'::ms) w':=by
 cases hf:G.findT t lo hi with
 | none =>
   refine (tput_yes hT lo hi id hf hS).mono ?_;rintro e w' ⟨rfl,h⟩;exact⟨⟨_,rfl⟩,h⟩
 | some i =>
   refine (tput_no hT lo hi id i hf hS).mono ?_;rintro e w' ⟨rfl,rfl⟩
   have:G.putT t lo hi id=t:=by unfold G.putT;rw[hf]
   rw[this];exact⟨⟨_,rfl⟩,m,hT,hS⟩
end
section
open Go.RowKit
structure StFit (s:G.St):Prop where
 vars:s.vars.length<=64
 lev:s.lev.length<=64
 tabs:s.tabs.length<=64
 cnt:s.cnt.length<=4194304
 cntb:∀c∈s.cnt,c<=4611686018427387904
 dead:s.dead<=4611686018427387904
 levb:∀c∈s.lev,c<=1048576
 varb:∀c∈s.vars,c<=1048576
def ptC(g:Nat):List Value:=[vPt g]
theorem ptC_len(g:Nat):(ptC g).length=1:=rfl
def StAt(S:Nat)(s:G.St)(m:PH):Prop:=StFit s/\∃L P vV vL vT vC,∃gs:List Nat,∃mV mL mP mT mC tms,
 Bd m (PH.one S (.cells #[vPt L,vPt P,vT,vC,nv s.dead] 164)::PH.one L (.cells #[vV,vL] 166)::mV::mL::mP::mT::mC::tms) /\
 OwnP mV 3 1 vV s.vars.length (s.vars.flatMap ivC)/\OwnP mL 3 1 vL s.lev.length (s.lev.flatMap ivC)/\PoolAt P s.pl mP/\OwnP mT 180 1 vT s.tabs.length (gs.flatMap ptC)/\OwnP mC 3 1 vC s.cnt.length (s.cnt.flatMap ivC) /\
 gs.length=s.tabs.length/\tms.length=s.tabs.length/\∀(v:Nat) g t tm,gs[v]?=some g->s.tabs[v]?=some t->tms[v]?=some tm->TabAt g t tm
def NumR(I:PH)(v:Value)(l:List Nat):Prop:=(∃A c,v=.slice A l.length c)/\(0<l.length->∃X c,v=.slice (some ⟨X,0,none⟩) l.length c/\∀(i:Nat) x,l[i]?=some x->I.at X i=some (nv x))
theorem NumR.le{I J:PH}{v:Value}{l:List Nat}(h:NumR I v l)(hJ:I.le J):NumR J v l:=⟨And.left h,λhl=>by
 obtain⟨X,c,h1,h2⟩:=And.right h hl;exact⟨X,c,h1,λi x hx=>PH.at_le hJ (h2 i x hx)⟩⟩
theorem OwnP.num{m:PH}{e:TypeId}{v:Value}{l:List Nat}(h:OwnP m e 1 v l.length (l.flatMap ivC)):NumR m v l:=by
 refine⟨?_,λhl=>?_⟩
 . obtain⟨A,c,h1,_⟩:=h.shape
   exact⟨A,c,h1⟩
 . obtain⟨X,c,rfl,_⟩:=h.ptr hl
   refine⟨X,c,rfl,λi x hx=>?_⟩
   have:=(Qs Kt h hx).at 0 rfl
   rwa [jG,Nat.add_zero] at this
def StR(I:PH)(S:Nat)(s:G.St):Prop:=StFit s/\∃L P vV vL vT vC,∃gs:List Nat,I.at S 0=some (vPt L)/\I.at S 1=some (vPt P)/\I.at S 2=some vT/\I.at S 3=some vC/\I.at S 4=some (nv s.dead)/\I.at L 0=some vV/\I.at L 1=some vL /\
 NumR I vV s.vars/\NumR I vL s.lev/\PoolR I P s.pl/\NumR I vC s.cnt/\gs.length=s.tabs.length/\(0<s.tabs.length->∃X c,vT=.slice (some ⟨X,0,none⟩) s.tabs.length c/\∀(i:Nat) x,gs[i]?=some x->I.at X i=some (vPt x))/\∀(v:Nat) g t,gs[v]?=some g->s.tabs[v]?=some t->TabR I g t
theorem StR.le{I J:PH}{S:Nat}{s:G.St}(h:StR I S s)(hJ:I.le J):StR J S s:=by
 obtain⟨h0,L,P,vV,vL,vT,vC,gs,h1,h2,h3,h4,h5,h6,h7,h8,h9,h10,h11,h12,h13,h14⟩:=h;refine⟨h0,L,P,vV,vL,vT,vC,gs,PH.at_le hJ h1,PH.at_le hJ h2,PH.at_le hJ h3,PH.at_le hJ h4,PH.at_le hJ h5,PH.at_le hJ h6,PH.at_le hJ h7,h8.le hJ,h9.le hJ,h10.le hJ,h11.le hJ,h12,λhl=>?_,λv g t hg ht=>(h14 v g t hg ht).le hJ⟩;obtain⟨X,c,e1,e2⟩:=h13 hl;exact⟨X,c,e1,λi x hx=>PH.at_le hJ (e2 i x hx)⟩
theorem StAt.read{S:Nat}{s:G.St}{m:PH}(h:StAt S s m):StR m S s:=by
 obtain⟨hf,L,P,vV,vL,vT,vC,gs,mV,mL,mP,mT,mC,tms,⟨rfl,hd⟩,hV,hL,hP,hT,hC,hgs,htm,htab⟩:=h;have hm:∀q∈(PH.one S (.cells #[vPt L,vPt P,vT,vC,nv s.dead] 164)::PH.one L (.cells #[vV,vL] 166)::mV::mL::mP::mT::mC::tms),q.le (PH.all (PH.one S (.cells #[vPt L,vPt P,vT,vC,nv s.dead] 164)::PH.one L (.cells #[vV,vL] 166)::mV::mL::mP::mT::mC::tms)):=λq hq=>PH.all_mem hd hq
 generalize PH.all _=M at *
 have l0:=hm _ (.head _);have l1:=hm _ (.tail _ (.head _));refine⟨hf,L,P,vV,vL,vT,vC,gs,PH.at_le l0 (Qb rfl),PH.at_le l0 (Qb rfl),PH.at_le l0 (Qb rfl),PH.at_le l0 (Qb rfl),PH.at_le l0 (Qb rfl),PH.at_le l1 (Qb rfl),PH.at_le l1 (Qb rfl),
  hV.num.le (hm mV (by simp)),hL.num.le (hm mL (by simp)),hP.read.le (hm mP (by simp)),hC.num.le (hm mC (by simp)),hgs,λhl=>?_,λv g t hg ht=>?_⟩
 . obtain⟨X,c,rfl,_⟩:=hT.ptr hl
   refine⟨X,c,rfl,λi x hx=>?_⟩
   have:=((Qs ptC_len hT hx).le (hm mT (by simp))).at 0 rfl
   rwa [jG,Nat.add_zero] at this
 . have hv:=(yE.1 ht).1
   have hx:=yA (l:=tms) (i:=v) (by omega);exact (htab v g t _ hg ht hx).read.le (hm _ (by simp[jWb]))
section
variable{w:World} {S:Nat} {s:G.St}
theorem svars_any(h:StR (Qa w) S s):Calls Tryz.prog 101 #[vPt S] w λe w'=>e=.returned (nv s.vars.length)/\w=w':=by
 obtain⟨h0,L,P,vV,vL,vT,vC,gs,h1,h2,h3,h4,h5,h6,h7,h8,h9,h10,h11,h12,h13,h14⟩:=h;obtain⟨⟨A,c,rfl⟩,_⟩:=h8;have hS:=Sat.start w;clear h2 h3 h4 h5 h7 h9 h10 h11 h12 h13 h14 h0;go_enter Tryz.func101,Tryz.ntmps101;go_wp2_with (first|(refine aL ?_))
 go_ret;exact⟨rfl,rfl⟩
theorem sroom_any(h:StR (Qa w) S s):Calls Tryz.prog 142 #[vPt S] w λe w'=>e=.returned (nv s.pl.room)/\w=w':=by
 obtain⟨h0,L,P,vV,vL,vT,vC,gs,h1,h2,h3,h4,h5,h6,h7,h8,h9,h10,h11,h12,h13,h14⟩:=h;have hS:=Sat.start w;have hc:=proom_any h10;clear h1 h3 h4 h5 h6 h7 h8 h9 h10 h11 h12 h13 h14 h0;go_enter Tryz.func142,Tryz.ntmps142;go_wp2_with (first|(go_at_call 158;(with_reducible refine yI hc ?_);rintro e w9 ⟨rfl,rfl⟩)|(refine aL ?_))
 go_ret;exact⟨rfl,rfl⟩
theorem slen_any(h:StR (Qa w) S s):Calls Tryz.prog 143 #[vPt S] w λe w'=>e=.returned (nv (G.many s.pl.slots))/\w=w':=by
 obtain⟨h0,L,P,vV,vL,vT,vC,gs,h1,h2,h3,h4,h5,h6,h7,h8,h9,h10,h11,h12,h13,h14⟩:=h;have hS:=Sat.start w;have hc:=plen_any h10;clear h1 h3 h4 h5 h6 h7 h8 h9 h10 h11 h12 h13 h14 h0;go_enter Tryz.func143,Tryz.ntmps143;go_wp2_with (first|(go_at_call 159;(with_reducible refine yI hc ?_);rintro e w9 ⟨rfl,rfl⟩)|(refine aL ?_))
 go_ret;exact⟨rfl,rfl⟩
theorem llevel_any{L:Nat}{vL:Value}(h7:(Qa w).at L 1=some vL)(h9:NumR (Qa w) vL s.lev)(hl:s.lev.length<=64)(v:Int):Calls Tryz.prog 116 #[vPt L,.int .i64 v] w λe w'=>e=.returned (.int .i64 (s.level v))/\w=w':=by
 have hS:=Sat.start w;by_cases c1:0<=v
 . by_cases c2:v<(s.lev.length:Int)
   . obtain⟨j,rfl⟩:∃j:Nat,v=(j:Int):=⟨v.toNat,by omega⟩
     have hj:j<s.lev.length:=by omega
     obtain⟨X,c,rfl,hx⟩:=h9.2 (by omega);have hx:=hx j _ (yA hj);have hr:s.level (j:Int)=((s.lev[j]:Nat):Int):=by
      unfold G.St.level;rw[jAb ⟨c1,c2⟩,Int.toNat_natCast,yD,yA hj];rfl
     rw[hr];generalize s.lev[j]=y at *
     clear h9 hr;generalize s.lev.length=n at *
     go_enter Tryz.func116,Tryz.ntmps116;go_wp2_with (first|((with_reducible refine Qu ?_);((with_reducible refine Zs ?_);first|((with_reducible refine Qy ?hw ?_);case hw=>(simp only[Region.wanted,yielded,zC,zA,zB,zK,jUa];done))|((refine' Ki (b:=_) ?hy ?_ ?_);(case hy=>(simp only[yielded,zC,zA,zB,zK];exact rfl));all_goals (intro hb;(try simp only[jW] at hb);(try simp only[hb]);(try simp only[Act.put,zE,zF,zG]);first|((have hf:False:=by (simp at hb;omega));cases hf)|skip))))|(refine aL ?_))
     go_ret;exact⟨rfl,rfl⟩
   . obtain⟨⟨A,c,rfl⟩,_⟩:=h9
     have hr:s.level v = -1:=by unfold G.St.level;rw[jAa (λh=>c2 h.2)]
     rw[hr];generalize s.lev.length=n at *
     go_enter Tryz.func116,Tryz.ntmps116;go_wp2_with (first|((with_reducible refine Qu ?_);((with_reducible refine Zs ?_);first|((with_reducible refine Qy ?hw ?_);case hw=>(simp only[Region.wanted,yielded,zC,zA,zB,zK,jUa];done))|((refine' Ki (b:=_) ?hy ?_ ?_);(case hy=>(simp only[yielded,zC,zA,zB,zK];exact rfl));all_goals (intro hb;(try simp only[jW] at hb);(try simp only[hb]);(try simp only[Act.put,zE,zF,zG]);first|((have hf:False:=by (simp at hb;omega));cases hf)|skip))))|(refine aL ?_))
     go_ret;exact⟨rfl,rfl⟩
 . have hr:s.level v = -1:=by unfold G.St.level;rw[jAa (λh=>c1 h.1)]
   rw[hr];have c1':v<0:=by omega
   go_enter Tryz.func116,Tryz.ntmps116;go_wp2_with (first|(refine aG ?_))
   go_ret;exact⟨rfl,rfl⟩
theorem slevel_any(h:StR (Qa w) S s)(v:Int):Calls Tryz.prog 71 #[vPt S,.int .i64 v] w λe w'=>e=.returned (.int .i64 (s.level v))/\w=w':=by
 obtain⟨h0,L,P,vV,vL,vT,vC,gs,h1,h2,h3,h4,h5,h6,h7,h8,h9,h10,h11,h12,h13,h14⟩:=h;have hS:=Sat.start w;have hc:=llevel_any (s:=s) h7 h9 h0.lev v;clear h2 h3 h4 h5 h6 h7 h8 h9 h10 h11 h12 h13 h14 h0;go_enter Tryz.func71,Tryz.ntmps71;go_wp2_with (first|(go_at_call 116;(with_reducible refine yI hc ?_);rintro e w9 ⟨rfl,rfl⟩)|(refine aL ?_))
 go_ret;exact⟨rfl,rfl⟩
end
end
section
open Go.RowKit
theorem G.Pl.isI_nat(p:G.Pl)(id:Nat):p.isI (id:Int)=(p.nd id).isSome:=by
 unfold G.Pl.isI;rw[Int.toNat_natCast];simp
def ndW(id:Nat)(o:Option G.Nd):Value:=.agg (ndC (o,id)).toArray
theorem Km(id:Nat)(o:Option G.Nd):(ndW id o).cells.size=5/\(ndW id o).cells.all (·.oneCell')=true:=by
 unfold ndW ndC;cases o <;> exact⟨rfl,by simp[Value.cells,Value.oneCell']⟩
theorem pat_nat{w:World}{P:Nat}{p:G.Pl}(h:PoolR (Qa w) P p)(id:Nat):Calls Tryz.prog 128 #[vPt P,nv id] w λe w'=>e=.returned (.tuple #[ndW id (p.nd id),.bool (p.nd id).isSome])/\Below w.heap.size w w':=by
 refine (pat_any h (id:Int)).mono ?_;rintro e w' ⟨rfl,hb⟩;refine⟨?_,hb⟩;rw[G.Pl.isI_nat];unfold ndV ndW;rw[Int.toNat_natCast];cases hn:p.nd id <;> simp
section
variable{w:World} {S:Nat} {s:G.St}
theorem sis_nat(h:StR (Qa w) S s)(f:Nat)(hf:f<9223372036854775808):Calls Tryz.prog 103 #[vPt S,nv f] w λe w'=>e=.returned (.bool (s.is (f:Int)))/\Below w.heap.size w w':=by
 obtain⟨h0,L,P,vV,vL,vT,vC,gs,h1,iS1,h3,h4,h5,h6,h7,h8,h9,hP,h11,h12,h13,h14⟩:=h;have HN:=yH (λw':World=>Xs w' f hf);have HA:=yH (λ(w':World) (hle:(Qa w).le (Qa w'))=>pat_nat (hP.le hle) (f/2));have HV5:=yH (Km (f/2) (s.pl.nd (f/2))).1;have HV1:=yH (Km (f/2) (s.pl.nd (f/2))).2;have hres:s.is (f:Int)=(f/2==0||(s.pl.nd (f/2)).isSome):=by unfold G.St.is G.St.nd;simp
 rw[hres];clear hres h0 h1 h3 h4 h5 h6 h7 h8 h9 hP h11 h12 h13 h14;have h0:¬(f:Int)<0:=by omega
 have hS:Sat w (Qa w) ([]++[]) w:=Sat.start w;go_enter Tryz.func103,Tryz.ntmps103;go_wp2_with fail
 refine Zf [[],[0],[0,1],[0,1,2],[],[4],[0,1,2,3,4,5],[0,1,2,3,4,5,6],[0,1,2,3,4,5,6,7],[0,1,2,3,4,5,6,7],[],[0,1,2,3,4,5,6,7,8,10],[0,1,2,3,4,5,6,7,8,9,10,11]] _ _ [] _ [⟨10,11,194,#[.int .i64 0,.int .i64 0,.int .i64 0,.int .i64 0,.int .i64 0],λcs _=>cs=(ndW (f/2) (s.pl.nd (f/2))).cells⟩] [λv _=>v=vPt S,λv _=>v=vPt S,λv _=>v=.pointer (some ⟨S,1,none⟩),λv _=>v=vPt P,λv _=>v=nv (f),λv _=>v=nv ((f)/2),λv _=>v=.tuple #[ndW (f/2) (s.pl.nd (f/2)),.bool ((s.pl.nd (f/2)).isSome)],λv _=>v=.tuple #[ndW (f/2) (s.pl.nd (f/2)),.bool ((s.pl.nd (f/2)).isSome)],λv _=>v=ndW (f/2) (s.pl.nd (f/2)),λv _=>v=.bool ((s.pl.nd (f/2)).isSome),λ_ _=>True,λ_ _=>True,λv _=>v=.bool ((s.pl.nd (f/2)).isSome)]
  (by kernel_rfl) (by kernel_rfl) (by simp) hS ?_ ?monoC ?okb ?dal ?fill ?plain ?fin
 . exact bL
 case monoC =>
  exact bM
 case okb =>
  intro b' hb';simp only[jBa,jCa,jJb] at hb';subst hb';exact⟨by simp,⟨rfl,rfl,rfl⟩,⟨_,Zw Xb,rfl⟩,⟨rfl,rfl,_,rfl⟩,by simp,Zx Qz⟩
 case dal =>
  exact bN
 case fill =>
  intro b' hb' vals J hJ hg;simp only[jBa,jCa,jJb] at hb';subst hb';simp only[zH,zI,Given,Facts] at hg;refine⟨ndW (f/2) (s.pl.nd (f/2)),by simp only[Zc,Qc,Qo,Qi,Qd,zH,zI,zA,zB,zK,jEb,Act.put,zE,zF,zG,Act.eval,zD,zC,zJ,hg],HV5.out,HV1.out,rfl⟩
 case plain =>
  repeat' (first|exact trivial|apply And.intro)
  all_goals first
   | (refine .inl (by rfl))
   | ((refine .inr ?_;intro vals J bs w hg hJ hS;refine bS ?_;intro K HK;(first|(refine bJ ?_)|(go_wp2_with (first|(go_at_call 49;with_reducible refine bC (HN.out _) ?_)|(go_at_call 128;((with_reducible refine bB hS (HA.out _ (PH.le.trans hJ hS.ile)) ?_);clear hS;intro w2 hS)))));( refine HK.out _ _ ⟨rfl,J,PH.le.refl _,hS,?_⟩ );clear HK;simp only[Facts,Qk,zH,zI,Act.put,zE,zF,zG,zD,zC,zA,zB,zJ]);done)
 case fin =>
  intro vals J bs w hJ hg hS hB;have hE:=yH (hS.end_ hJ);clear hB hS HA HV5 HV1 iS1;have e1:(((f:Int)/2)==0)=(f/2==0):=by
   by_cases hc:f/2=0
   . rw[hc];have:(f:Int)/2=0:=by omega
     rw[this];rfl
   . have:¬(f:Int)/2=0:=by omega
     rw[jGb.2 hc,jGb.2 this]
  have E1:=yH e1;clear e1;refine bH ?_;clear hg;go_wp2_with (first|(go_at_call 49;with_reducible refine bC (HN.out _) ?_))
  all_goals go_ret
  all_goals first|exact⟨jNa (λz=>Ending.returned (.bool (z||(s.pl.nd (f/2)).isSome))) E1.out,hE.out⟩|(refine⟨?_,hE.out⟩;have e2:(f/2==0)=true:=(by simp only[jRb];omega);show Ending.returned (.bool true)=_;rw[e2];rfl)
theorem sis_neg(f:Int)(hf:f<0):Calls Tryz.prog 103 #[vPt S,.int .i64 f] w λe w'=>e=.returned (.bool false)/\w=w':=by
 go_enter Tryz.func103,Tryz.ntmps103;go_wp2
 go_ret;exact⟨rfl,rfl⟩
theorem sat_none(h:StR (Qa w) S s)(f:Nat)(hf:f<9223372036854775808)(hn:s.nd (f/2)=none):Calls Tryz.prog 94 #[vPt S,nv f] w λe w'=>e=.returned (.tuple #[.int .i64 (-1),.int .i64 0,.int .i64 0,.bool false])/\Below w.heap.size w w':=by
 obtain⟨h0,L,P,vV,vL,vT,vC,gs,h1,iS1,h3,h4,h5,h6,h7,h8,h9,hP,h11,h12,h13,h14⟩:=h;have hn:s.pl.nd (f/2)=none:=hn;have HN:=yH (λw':World=>Xs w' f hf);have ha:∀w':World,(Qa w).le (Qa w')->_:=λ(w':World) (hle:(Qa w).le (Qa w'))=>pat_nat (hP.le hle) (f/2)
 rw[hn] at ha;have HA:=yH ha;have HV5:=yH (Km (f/2) none).1;have HV1:=yH (Km (f/2) none).2;clear ha h0 h1 h3 h4 h5 h6 h7 h8 h9 hP h11 h12 h13 h14;have h0:¬(f:Int)<0:=by omega
 have hS:Sat w (Qa w) ([]++[]) w:=Sat.start w;go_enter Tryz.func94,Tryz.ntmps94;go_wp2_with fail
 refine Zf [[],[0],[0,1],[0,1,2],[],[4],[0,1,2,3,4,5],[0,1,2,3,4,5,6],[0,1,2,3,4,5,6,7],[0,1,2,3,4,5,6,7],[],[0,1,2,3,4,5,6,7,8,10],[0,1,2,3,4,5,6,7,8,9,10,11]] _ _ [] _ [⟨10,11,194,#[.int .i64 0,.int .i64 0,.int .i64 0,.int .i64 0,.int .i64 0],λcs _=>cs=(ndW (f/2) none).cells⟩] [λv _=>v=vPt S,λv _=>v=vPt S,λv _=>v=.pointer (some ⟨S,1,none⟩),λv _=>v=vPt P,λv _=>v=nv (f),λv _=>v=nv ((f)/2),λv _=>v=.tuple #[ndW (f/2) none,.bool (false)],λv _=>v=.tuple #[ndW (f/2) none,.bool (false)],λv _=>v=ndW (f/2) none,λv _=>v=.bool (false),λ_ _=>True,λ_ _=>True,λv _=>v=.bool (false)]
  (by kernel_rfl) (by kernel_rfl) (by simp) hS ?_ ?monoC ?okb ?dal ?fill ?plain ?fin
 . exact bL
 case monoC =>
  exact bM
 case okb =>
  intro b' hb';simp only[jBa,jCa,jJb] at hb';subst hb';exact⟨by simp,⟨rfl,rfl,rfl⟩,⟨_,Zw Xb,rfl⟩,⟨rfl,rfl,_,rfl⟩,by simp,Zx Qz⟩
 case dal =>
  exact bN
 case fill =>
  intro b' hb' vals J hJ hg;simp only[jBa,jCa,jJb] at hb';subst hb';simp only[zH,zI,Given,Facts] at hg;refine⟨ndW (f/2) none,by simp only[Zc,Qc,Qo,Qi,Qd,zH,zI,zA,zB,zK,jEb,Act.put,zE,zF,zG,Act.eval,zD,zC,zJ,hg],HV5.out,HV1.out,rfl⟩
 case plain =>
  repeat' (first|exact trivial|apply And.intro)
  all_goals first
   | (refine .inl (by rfl))
   | ((refine .inr ?_;intro vals J bs w hg hJ hS;refine bS ?_;intro K HK;(first|(refine bJ ?_)|(go_wp2_with (first|(go_at_call 49;with_reducible refine bC (HN.out _) ?_)|(go_at_call 128;((with_reducible refine bB hS (HA.out _ (PH.le.trans hJ hS.ile)) ?_);clear hS;intro w2 hS)))));( refine HK.out _ _ ⟨rfl,J,PH.le.refl _,hS,?_⟩ );clear HK;simp only[Facts,Qk,zH,zI,Act.put,zE,zF,zG,zD,zC,zA,zB,zJ]);done)
 case fin =>
  intro vals J bs w hJ hg hS hB;have hE:=yH (hS.end_ hJ);clear hB hS HA HV5 HV1 iS1;refine bH ?_;clear hg;go_wp2
  refine bodyPost_ret (res4 (w:=w) rfl (rvt rfl) (rvt rfl) (rvt rfl) (rvt rfl)) rfl ?_;exact⟨rfl,hE.out⟩
theorem sat_some(h:StR (Qa w) S s)(f:Nat)(hf:f<9223372036854775808){n:G.Nd}(hn:s.nd (f/2)=some n):Calls Tryz.prog 94 #[vPt S,nv f] w λe w'=>e=.returned (.tuple #[nv n.v,nv (G.flipIf n.lo (f%2==1)),nv (G.flipIf n.hi (f%2==1)),.bool true])/\Below w.heap.size w w':=by
 obtain⟨h0,L,P,vV,vL,vT,vC,gs,h1,iS1,h3,h4,h5,h6,h7,h8,h9,hP,h11,h12,h13,h14⟩:=h;have hn:s.pl.nd (f/2)=some n:=hn;obtain⟨_,fl,fh,_⟩:=hP.1.nd _ _ (G.Pl.nd_some.1 hn).2;have HN:=yH (λw':World=>Xs w' f hf);have ha:∀w':World,(Qa w).le (Qa w')->_:=λ(w':World) (hle:(Qa w).le (Qa w'))=>pat_nat (hP.le hle) (f/2)
 rw[hn] at ha;have HA:=yH ha;have HV5:=yH (Km (f/2) (some n)).1;have HV1:=yH (Km (f/2) (some n)).2;have HG:=yH (λw':World=>eneg_any w' f);have HL:=yH (λ(w':World)=>Zn w' n.lo (f%2==1) fl);have HH:=yH (λ(w':World)=>Zn w' n.hi (f%2==1) fh);clear ha h0 h1 h3 h4 h5 h6 h7 h8 h9 hP h11 h12 h13 h14;have h0:¬(f:Int)<0:=by omega
 have hS:Sat w (Qa w) ([]++[]) w:=Sat.start w;go_enter Tryz.func94,Tryz.ntmps94;go_wp2_with fail
 refine Zf [[],[0],[0,1],[0,1,2],[],[4],[0,1,2,3,4,5],[0,1,2,3,4,5,6],[0,1,2,3,4,5,6,7],[0,1,2,3,4,5,6,7],[],[0,1,2,3,4,5,6,7,8,10],[0,1,2,3,4,5,6,7,8,9,10,11]] _ _ [] _ [⟨10,11,194,#[.int .i64 0,.int .i64 0,.int .i64 0,.int .i64 0,.int .i64 0],λcs _=>cs=(ndW (f/2) (some n)).cells⟩] [λv _=>v=vPt S,λv _=>v=vPt S,λv _=>v=.pointer (some ⟨S,1,none⟩),λv _=>v=vPt P,λv _=>v=nv (f),λv _=>v=nv ((f)/2),λv _=>v=.tuple #[ndW (f/2) (some n),.bool (true)],λv _=>v=.tuple #[ndW (f/2) (some n),.bool (true)],λv _=>v=ndW (f/2) (some n),λv _=>v=.bool (true),λ_ _=>True,λ_ _=>True,λv _=>v=.bool (true)]
  (by kernel_rfl) (by kernel_rfl) (by simp) hS ?_ ?monoC ?okb ?dal ?fill ?plain ?fin
 . exact bL
 case monoC =>
  exact bM
 case okb =>
  intro b' hb';simp only[jBa,jCa,jJb] at hb';subst hb';exact⟨by simp,⟨rfl,rfl,rfl⟩,⟨_,Zw Xb,rfl⟩,⟨rfl,rfl,_,rfl⟩,by simp,Zx Qz⟩
 case dal =>
  exact bN
 case fill =>
  intro b' hb' vals J hJ hg;simp only[jBa,jCa,jJb] at hb';subst hb';simp only[zH,zI,Given,Facts] at hg;refine⟨ndW (f/2) (some n),by simp only[Zc,Qc,Qo,Qi,Qd,zH,zI,zA,zB,zK,jEb,Act.put,zE,zF,zG,Act.eval,zD,zC,zJ,hg],HV5.out,HV1.out,rfl⟩
 case plain =>
  repeat' (first|exact trivial|apply And.intro)
  all_goals first
   | (refine .inl (by rfl))
   | ((refine .inr ?_;intro vals J bs w hg hJ hS;refine bS ?_;intro K HK;(first|(refine bJ ?_)|(go_wp2_with (first|(go_at_call 49;with_reducible refine bC (HN.out _) ?_)|(go_at_call 128;((with_reducible refine bB hS (HA.out _ (PH.le.trans hJ hS.ile)) ?_);clear hS;intro w2 hS)))));( refine HK.out _ _ ⟨rfl,J,PH.le.refl _,hS,?_⟩ );clear HK;simp only[Facts,Qk,zH,zI,Act.put,zE,zF,zG,zD,zC,zA,zB,zJ]);done)
 case fin =>
  intro vals J bs w1 hJ hg hS hB;cases hB with
  | cons h1 hB =>
  cases hB;simp only[Bx.st,jEb] at h1;obtain⟨Y,cY,eY,rfl,zY,rfl⟩:=h1;have e10:vals 10=vPt Y:=eY;clear HA HV5 HV1 iS1 HN;have hS:=hS.less hJ;simp only[List.nil_append,List.cons_append] at hS;obtain⟨I2,l12,lY,hS2,bY⟩:=hS.ice;have iY1:I2.at Y 1=some (nv n.v):=PH.at_le lY (Qb rfl);have iY2:I2.at Y 2=some (nv n.lo):=PH.at_le lY (Qb rfl);have iY3:I2.at Y 3=some (nv n.hi):=PH.at_le lY (Qb rfl);have HbY:=yH bY;clear hS bY lY l12;refine bH ?_;clear hg;simp only[e10];go_wp2_with fail
  refine Qf [[],[0],[],[2],[],[4],[2,3,4,5],[],[7],[],[2,3,4,5,6,9],[2,3,4,5,6,7,8,9,10],[0,1,2,3,4,5,6,7,8,9,10,11],[0,1,2,3,4,5,6,7,8,9,10,11,12],[0,1,2,3,4,5,6,7,8,9,10,11,12,13],[0,1,2,3,4,5,6,7,8,9,10,11,12,13,14]] _ I2 _
   [λv _=>v=.pointer (some ⟨Y,1,none⟩),λv _=>v=nv n.v,λv _=>v=.pointer (some ⟨Y,2,none⟩),λv _=>v=nv n.lo,λv _=>v=nv f,λv _=>v=.bool (f%2==1),λv _=>v=nv (G.flipIf n.lo (f%2==1)),λv _=>v=.pointer (some ⟨Y,3,none⟩),λv _=>v=nv n.hi,λv _=>v=nv f,λv _=>v=.bool (f%2==1),λv _=>v=nv (G.flipIf n.hi (f%2==1)),λv _=>v=nv n.v,λv _=>v=nv (G.flipIf n.lo (f%2==1)),λv _=>v=nv (G.flipIf n.hi (f%2==1)),λv _=>v=.bool true] []
   (λ_ _ _ ns=>ns=[]) (by kernel_rfl) (by kernel_rfl) (by decide) hS2 rfl ?last2 (λ_ _ _ _ _ _ h=>h) (λ_ _ _ _ _ _ h=>h) ?plain2 ?step2 ?fin2
  case last2=>exact bL
  case plain2=>(repeat' (first|exact trivial|apply And.intro)) <;>  (refine .inr ?_;intro s vals J bs w hstop hg hJ hS hG;clear hG;refine bS ?_;intro K HK;(first|(refine bJ ?_)|(go_wp2_with (first|(go_at_call 51;with_reducible refine bC (HG.out _) ?_)|(go_at_call 50;first|(with_reducible refine bC (HL.out _) ?_)|(with_reducible refine bC (HH.out _) ?_)))));exact bO)
  case step2=>trivial
  case fin2 =>
   intro vals2 J2 bs w2 hJ2 hg hS hG;have hG:bs=_:=hG;subst hG;have hE:=yH ((HbY.out _ _ (hS.less hJ2)).end_ (PH.le.refl _));clear hS HbY iY1 iY2 iY3 HG HL HH;refine bH ?_;clear hg;go_wp2
   refine bodyPost_ret (res4 (w:=w2) rfl (rvt rfl) (rvt rfl) (rvt rfl) (rvt rfl)) rfl ?_;exact⟨rfl,hE.out⟩
end
end
end Go.Proofs.YtidamcdklgfogaaGreat
