import Derived.Test.YtdhkkkhnjooioaaGreatZaj
set_option linter.unusedSimpArgs false
set_option linter.unusedVariables false
namespace Go.Proofs.YtdhkkkhnjooioaaGreat
open Go.RowKit
theorem MapOk.pute {es:List En} {c:Nat} (h:MapOk (rows es) c) {lo hi:Int} (hf:findE es lo hi=none) (id:Int):MapOk (rows (putE es lo hi id c)) (c+1):=by
 rw [← rows_put]
 exact h.push (by rw [getR_rows,hf];rfl) _
theorem MapOk.cute {es:List En} {c:Nat} (h:MapOk (rows es) c) (lo hi:Int):MapOk (rows (cutE es lo hi)) c:=by
 rw [← rows_cut]
 exact h.del
theorem put_yes (E w:World) (I:PH) (ms:List PH) (g M:Nat) (es:List En) (c:Nat) (lo hi id:Int) (hS:Sat E I (tbv g M::tbm M es c::ms) w) (hok:MapOk (rows es) c) (hf:findE es lo hi=none) :
 Calls Tryz.prog 59 #[.pointer (some ⟨g,0,none⟩),.int .i64 lo,.int .i64 hi,.int .i64 id] w fun e w'=>e=.returned (.int .i64 0)∧Sat E I (tbv g M::tbm M (putE es lo hi id c) (c+1)::ms) w':=by
 have hq:=getR_rows es lo hi
 rw [hf] at hq
 have hr:=rows_put es lo hi id c
 unfold tbm at hS ⊢
 rw [← hr]
 clear hr hf
 generalize rows es=l at *
 have Hq:=Lib.hid hq
 have Hk:=Lib.hid hok
 clear hq hok
 unfold tbv at hS ⊢
 go_enter Tryz.func59,Tryz.ntmps59
 go_wp2_with (first|((with_reducible refine isLookup ?_);refine lk2 (x:=(lo,hi)) hS (.inr (.tail _ (.head _))) (PH.one_self _ _) kE Tryz.underlying115 ty_z3 rfl rfl rfl rfl Hq.out ?_;simp only [Option.map_none,Option.getD_none,Option.isSome_none];(try simp only [Act.put,zE,zF,zG]))|((with_reducible refine isUpdate ?_);refine muNew (x:=(lo,hi)) hS 1 rfl kE Tryz.underlying115 rfl rfl rfl rfl rfl Hk.out Hq.out ?_;clear hS;intro w hS;simp only [zF,zG] at hS;(try simp only [Act.put]))|((with_reducible refine atList ?_);  ((with_reducible refine isLoad ?_);( (refine ld1 0 hS rfl rfl ?ha rfl rfl rfl ?_;(case ha=>exact ty_agg115)) );(try simp only [Act.put,zE,zF,zG])) ))
 go_ret
 exact ⟨rfl,hS⟩
theorem put_no (E w:World) (I:PH) (ms:List PH) (g M:Nat) (es:List En) (c:Nat) (lo hi id i:Int) (hS:Sat E I (tbv g M::tbm M es c::ms) w) (hf:findE es lo hi=some i) :
 Calls Tryz.prog 59 #[.pointer (some ⟨g,0,none⟩),.int .i64 lo,.int .i64 hi,.int .i64 id] w fun e w'=>e=.returned (.int .i64 6)∧w=w':=by
 have hq:=getR_rows es lo hi
 rw [hf] at hq
 unfold tbm at hS
 clear hf
 generalize rows es=l at *
 have Hq:=Lib.hid hq
 clear hq
 unfold tbv at hS
 go_enter Tryz.func59,Tryz.ntmps59
 go_wp2_with (first|((with_reducible refine isLookup ?_);refine lk2 (x:=(lo,hi)) hS (.inr (.tail _ (.head _))) (PH.one_self _ _) kE Tryz.underlying115 ty_z3 rfl rfl rfl rfl Hq.out ?_;simp only [Option.map_some,zJ,Option.isSome_some];(try simp only [Act.put,zE,zF,zG]))|((with_reducible refine atList ?_);  ((with_reducible refine isLoad ?_);( (refine ld1 0 hS rfl rfl ?ha rfl rfl rfl ?_;(case ha=>exact ty_agg115)) );(try simp only [Act.put,zE,zF,zG])) ))
 go_ret
 exact ⟨rfl,rfl⟩
theorem cut_no (E w:World) (I:PH) (ms:List PH) (g M:Nat) (es:List En) (c:Nat) (lo hi:Int) (hS:Sat E I (tbv g M::tbm M es c::ms) w) (hf:findE es lo hi=none) :
 Calls Tryz.prog 57 #[.pointer (some ⟨g,0,none⟩),.int .i64 lo,.int .i64 hi] w fun e w'=>e=.returned (.int .i64 5)∧w=w':=by
 have hq:=getR_rows es lo hi
 rw [hf] at hq
 unfold tbm at hS
 clear hf
 generalize rows es=l at *
 have Hq:=Lib.hid hq
 clear hq
 unfold tbv at hS
 go_enter Tryz.func57,Tryz.ntmps57
 go_wp2_with (first|((with_reducible refine isLookup ?_);refine lk2 (x:=(lo,hi)) hS (.inr (.tail _ (.head _))) (PH.one_self _ _) kE Tryz.underlying115 ty_z3 rfl rfl rfl rfl Hq.out ?_;simp only [Option.map_none,Option.getD_none,Option.isSome_none];(try simp only [Act.put,zE,zF,zG]))|((with_reducible refine atList ?_);  ((with_reducible refine isLoad ?_);( (refine ld1 0 hS rfl rfl ?ha rfl rfl rfl ?_;(case ha=>exact ty_agg115)) );(try simp only [Act.put,zE,zF,zG])) ))
 go_ret
 exact ⟨rfl,rfl⟩
theorem cut_yes (E w:World) (I:PH) (ms:List PH) (g M:Nat) (es:List En) (c:Nat) (lo hi i:Int) (hS:Sat E I (tbv g M::tbm M es c::ms) w) (hok:MapOk (rows es) c) (hf:findE es lo hi=some i) :
 Calls Tryz.prog 57 #[.pointer (some ⟨g,0,none⟩),.int .i64 lo,.int .i64 hi] w fun e w'=>e=.returned (.int .i64 0)∧Sat E I (tbv g M::tbm M (cutE es lo hi) c::ms) w':=by
 have hq:=getR_rows es lo hi
 rw [hf] at hq
 have hr:=rows_cut es lo hi
 unfold tbm at hS ⊢
 rw [← hr]
 clear hr hf
 generalize rows es=l at *
 have Hq:=Lib.hid hq
 have Hk:=Lib.hid hok
 clear hq hok
 unfold tbv at hS ⊢
 go_enter Tryz.func57,Tryz.ntmps57
 go_wp2_with (first|((with_reducible refine isLookup ?_);refine lk2 (x:=(lo,hi)) hS (.inr (.tail _ (.head _))) (PH.one_self _ _) kE Tryz.underlying115 ty_z3 rfl rfl rfl rfl Hq.out ?_;simp only [Option.map_some,zJ,Option.isSome_some];(try simp only [Act.put,zE,zF,zG]))|((with_reducible refine isDelete ?_);refine dl (x:=(lo,hi)) hS 1 rfl kE Tryz.underlying115 rfl rfl rfl rfl Hk.out ?_;clear hS;intro w hS;simp only [zF,zG] at hS;(try simp only [Act.put]))|((with_reducible refine atList ?_);  ((with_reducible refine isLoad ?_);( (refine ld1 0 hS rfl rfl ?ha rfl rfl rfl ?_;(case ha=>exact ty_agg115)) );(try simp only [Act.put,zE,zF,zG])) ))
 go_ret
 exact ⟨rfl,hS⟩
end Go.Proofs.YtdhkkkhnjooioaaGreat
namespace Go.Proofs.YtdhkkkhnjooioaaGreat
open Go.RowKit
def entI (e:G.Ent):Int × Int × Int:=(e.lo,e.hi,e.id)
def enI (e:En):Int × Int × Int:=(e.lo,e.hi,e.id)
def TRel (es:List En) (t:List G.Ent):Prop:=es.map enI=t.map entI
theorem TRel.cons {e:En} {es:List En} {t:List G.Ent} (h:TRel (e::es) t):∃ f t',t=f::t'∧e.lo=f.lo∧e.hi=f.hi∧e.id=f.id∧TRel es t':=by
 unfold TRel at h
 cases t with
 | nil=>cases h
 | cons f t =>
   rw [List.map_cons,List.map_cons] at h
   injection h with h1 h2
   simp only [enI,entI,Prod.mk.injEq] at h1
   exact ⟨f,t,rfl,h1.1,h1.2.1,h1.2.2,h2⟩
theorem TRel.nil {t:List G.Ent} (h:TRel [] t):t=[]:=by
 unfold TRel at h
 cases t with
 | nil=>rfl
 | cons f t=>cases h
theorem TRel.len {es:List En} {t:List G.Ent} (h:TRel es t):es.length=t.length:=by simpa using congrArg List.length h
theorem TRel.find:∀ {es:List En} {t:List G.Ent},TRel es t→∀ lo hi:Nat,findE es lo hi=(G.findT t lo hi).map (fun n:Nat=>(n:Int))
 | [],t,h,lo,hi=>by rw [h.nil];rfl
 | e::es,t,h,lo,hi=>by
   obtain ⟨f,t',rfl,h1,h2,h3,h4⟩:=h.cons
   have ih:=h4.find lo hi
   unfold findE G.findT at *
   by_cases hc:f.lo=lo∧f.hi=hi
   · have e1:decide ((e.lo,e.hi)=((lo:Int),(hi:Int)))=true:=by simp [h1,h2,hc.1,hc.2]
     have e2:(f.lo == lo && f.hi == hi)=true:=by simp [hc.1,hc.2]
     simp only [List.find?_cons,e1,e2]
     simp [h3]
   · have e1:decide ((e.lo,e.hi)=((lo:Int),(hi:Int)))=false:=by
      simp only [decide_eq_false_iff_not,Prod.mk.injEq,h1,h2]
      rintro ⟨g1,g2⟩
      exact hc ⟨by omega,by omega⟩
     have e2:(f.lo == lo && f.hi == hi)=false:=by
      simp only [Bool.and_eq_false_iff,beq_eq_false_iff_ne]
      by_cases g:f.lo=lo
      · exact .inr fun g2=>hc ⟨g,g2⟩
      · exact .inl g
     simp only [List.find?_cons,e1,e2]
     exact ih
theorem TRel.put {es:List En} {t:List G.Ent} (h:TRel es t) {lo hi id c:Nat} (hf:G.findT t lo hi=none):TRel (putE es lo hi id c) (G.putT t lo hi id):=by
 unfold G.putT
 rw [hf]
 unfold TRel putE at *
 rw [List.map_append,List.map_append,h]
 rfl
theorem TRel.cut:∀ {es:List En} {t:List G.Ent},TRel es t→∀ lo hi:Nat,TRel (cutE es lo hi) (G.cutT t lo hi)
 | [],t,h,lo,hi=>by rw [h.nil];rfl
 | e::es,t,h,lo,hi=>by
   obtain ⟨f,t',rfl,h1,h2,h3,h4⟩:=h.cons
   have ih:=h4.cut lo hi
   unfold cutE G.cutT at *
   by_cases hc:f.lo=lo∧f.hi=hi
   · have e1:decide ((e.lo,e.hi)≠((lo:Int),(hi:Int)))=false:=by simp [h1,h2,hc.1,hc.2]
     have e2:(!(f.lo == lo && f.hi == hi))=false:=by simp [hc.1,hc.2]
     simp only [List.filter_cons,e1,e2,Bool.false_eq_true,if_false]
     exact ih
   · have e1:decide ((e.lo,e.hi)≠((lo:Int),(hi:Int)))=true:=by
      simp only [decide_eq_true_eq,ne_eq,Prod.mk.injEq,h1,h2]
      rintro ⟨g1,g2⟩
      exact hc ⟨by omega,by omega⟩
     have e2:(!(f.lo == lo && f.hi == hi))=true:=by
      simp only [Bool.not_eq_true',Bool.and_eq_false_iff,beq_eq_false_iff_ne]
      by_cases g:f.lo=lo
      · exact .inr fun g2=>hc ⟨g,g2⟩
      · exact .inl g
     simp only [List.filter_cons,e1,e2,if_true]
     unfold TRel at *
     rw [List.map_cons,List.map_cons,ih]
     simp only [enI,entI,h1,h2,h3]
def TabAt (g:Nat) (t:List G.Ent) (m:PH):Prop:=∃ M es c,Bd m [tbv g M,tbm M es c]∧MapOk (rows es) c∧TRel es t
def TabR (I:PH) (g:Nat) (t:List G.Ent):Prop:=∃ M es c,TbIn I g M es c∧MapOk (rows es) c∧TRel es t
theorem TabR.le {I J:PH} {g:Nat} {t:List G.Ent} (h:TabR I g t) (hJ:I.le J):TabR J g t:=by
 obtain ⟨M,es,c,h1,h2⟩:=h
 exact ⟨M,es,c,h1.le hJ,h2⟩
theorem TabAt.read {g:Nat} {t:List G.Ent} {m:PH} (h:TabAt g t m):TabR m g t:=by
 obtain ⟨M,es,c,⟨rfl,hd⟩,h2⟩:=h
 exact ⟨M,es,c,⟨PH.at_le (PH.all_mem hd (.head _)) (at_one rfl),PH.all_mem hd (.tail _ (.head _)) _ _ (PH.one_self _ _)⟩,h2⟩
theorem tfind_any {w:World} {g:Nat} {t:List G.Ent} (h:TabR (heapOf w) g t) (lo hi:Nat) :
 Calls Tryz.prog 46 #[vPt g,nv lo,nv hi] w fun e w'=>e=.returned (.tuple #[nv ((G.findT t lo hi).getD 0),.bool (G.findT t lo hi).isSome])∧w=w':=by
 obtain ⟨M,es,c,h1,_,h3⟩:=h
 refine (find_any w g M es c lo hi h1).mono ?_
 rintro e w' ⟨rfl,rfl⟩
 refine ⟨?_,rfl⟩
 rw [h3.find lo hi]
 cases G.findT t lo hi <;> rfl
theorem tput_yes {E w:World} {I m:PH} {ms:List PH} {g:Nat} {t:List G.Ent} (hT:TabAt g t m) (lo hi id:Nat) (hf:G.findT t lo hi=none) (hS:Sat E I (m::ms) w) :
 Calls Tryz.prog 59 #[vPt g,nv lo,nv hi,nv id] w fun e w'=>e=.returned (.int .i64 0)∧∃ m',TabAt g (G.putT t lo hi id) m'∧Sat E I (m'::ms) w':=by
 obtain ⟨M,es,c,hb,hok,hr⟩:=hT
 have hS:=Sat.unpack hb hS
 have hfe:findE es lo hi=none:=by rw [hr.find,hf];rfl
 refine (put_yes E w I ms g M es c lo hi id hS hok hfe).mono ?_
 rintro e w' ⟨rfl,hS'⟩
 obtain ⟨m',hb',hS''⟩:=Sat.pack [tbv g M,tbm M (putE es lo hi id c) (c+1)] hS'
 exact ⟨rfl,m',⟨M,_,_,hb',hok.pute hfe id,hr.put hf⟩,hS''⟩
theorem tput_no {E w:World} {I m:PH} {ms:List PH} {g:Nat} {t:List G.Ent} (hT:TabAt g t m) (lo hi id i:Nat) (hf:G.findT t lo hi=some i) (hS:Sat E I (m::ms) w) :
 Calls Tryz.prog 59 #[vPt g,nv lo,nv hi,nv id] w fun e w'=>e=.returned (.int .i64 6)∧w=w':=by
 obtain ⟨M,es,c,hb,hok,hr⟩:=hT
 exact put_no E w I ms g M es c lo hi id i (Sat.unpack hb hS) (by rw [hr.find,hf];rfl)
theorem tcut_yes {E w:World} {I m:PH} {ms:List PH} {g:Nat} {t:List G.Ent} (hT:TabAt g t m) (lo hi i:Nat) (hf:G.findT t lo hi=some i) (hS:Sat E I (m::ms) w) :
 Calls Tryz.prog 57 #[vPt g,nv lo,nv hi] w fun e w'=>e=.returned (.int .i64 0)∧∃ m',TabAt g (G.cutT t lo hi) m'∧Sat E I (m'::ms) w':=by
 obtain ⟨M,es,c,hb,hok,hr⟩:=hT
 have hS:=Sat.unpack hb hS
 refine (cut_yes E w I ms g M es c lo hi i hS hok (by rw [hr.find,hf];rfl)).mono ?_
 rintro e w' ⟨rfl,hS'⟩
 obtain ⟨m',hb',hS''⟩:=Sat.pack [tbv g M,tbm M (cutE es lo hi) c] hS'
 exact ⟨rfl,m',⟨M,_,_,hb',hok.cute lo hi,hr.cut lo hi⟩,hS''⟩
theorem cutT_none {t:List G.Ent} {lo hi:Nat} (h:G.findT t lo hi=none):G.cutT t lo hi=t:=by
 unfold G.findT at h
 rw [Option.map_eq_none_iff,List.find?_eq_none] at h
 unfold G.cutT
 rw [List.filter_eq_self]
 intro e he
 have:=h e he
 simp only [Bool.not_eq_true] at this
 rw [this];rfl
theorem tcut_any {E w:World} {I m:PH} {ms:List PH} {g:Nat} {t:List G.Ent} (hT:TabAt g t m) (lo hi:Nat) (hS:Sat E I (m::ms) w) :
 Calls Tryz.prog 57 #[vPt g,nv lo,nv hi] w fun e w'=>(∃ c,e=.returned (.int .i64 c))∧∃ m',TabAt g (G.cutT t lo hi) m'∧Sat E I (m'::ms) w':=by
 cases hf:G.findT t lo hi with
 | some i =>
   refine (tcut_yes hT lo hi i hf hS).mono ?_
   rintro e w' ⟨rfl,h⟩
   exact ⟨⟨_,rfl⟩,h⟩
 | none =>
   obtain ⟨M,es,c,hb,hok,hr⟩:=id hT
   refine (cut_no E w I ms g M es c lo hi (Sat.unpack hb hS) (by rw [hr.find,hf];rfl)).mono ?_
   rintro e w' ⟨rfl,rfl⟩
   rw [cutT_none hf]
   exact ⟨⟨_,rfl⟩,m,hT,hS⟩
theorem tput_any {E w:World} {I m:PH} {ms:List PH} {g:Nat} {t:List G.Ent} (hT:TabAt g t m) (lo hi id:Nat) (hS:Sat E I (m::ms) w) :
 Calls Tryz.prog 59 #[vPt g,nv lo,nv hi,nv id] w fun e w'=>(∃ c,e=.returned (.int .i64 c))∧∃ m',TabAt g (G.putT t lo hi id) m'∧Sat E I (m'::ms) w':=by
 cases hf:G.findT t lo hi with
 | none =>
   refine (tput_yes hT lo hi id hf hS).mono ?_
   rintro e w' ⟨rfl,h⟩
   exact ⟨⟨_,rfl⟩,h⟩
 | some i =>
   refine (tput_no hT lo hi id i hf hS).mono ?_
   rintro e w' ⟨rfl,rfl⟩
   have:G.putT t lo hi id=t:=by unfold G.putT;rw [hf]
   rw [this]
   exact ⟨⟨_,rfl⟩,m,hT,hS⟩
end Go.Proofs.YtdhkkkhnjooioaaGreat
namespace Go.Proofs.YtdhkkkhnjooioaaGreat
open Go.RowKit
theorem ty_agg55:aggB Tryz.prog 55=some false:=by kernel_rfl
theorem ty_agg58:aggB Tryz.prog 58=some false:=by kernel_rfl
theorem ty_agg62:aggB Tryz.prog 62=some false:=by kernel_rfl
theorem ty_sz62:sizeB Tryz.prog 62=some 1:=by kernel_rfl
theorem ty_agg65:aggB Tryz.prog 65=some false:=by kernel_rfl
structure StFit (s:G.St):Prop where
 vars:s.vars.length≤64
 lev:s.lev.length≤64
 tabs:s.tabs.length≤64
 cnt:s.cnt.length≤4194304
 cntb:∀ c ∈ s.cnt,c≤4611686018427387904
 dead:s.dead≤4611686018427387904
 levb:∀ c ∈ s.lev,c≤1048576
 varb:∀ c ∈ s.vars,c≤1048576
def ptC (g:Nat):List Value:=[vPt g]
theorem ptC_len (g:Nat):(ptC g).length=1:=rfl
def StAt (S:Nat) (s:G.St) (m:PH):Prop:=StFit s∧∃ L P vV vL vT vC,∃ gs:List Nat,∃ mV mL mP mT mC tms,
 Bd m (PH.one S (.cells #[vPt L,vPt P,vT,vC,nv s.dead] 64)::PH.one L (.cells #[vV,vL] 61)::mV::mL::mP::mT::mC::tms) ∧
 OwnP mV 3 1 vV s.vars.length (s.vars.flatMap ivC)∧OwnP mL 3 1 vL s.lev.length (s.lev.flatMap ivC)∧PoolAt P s.pl mP∧OwnP mT 65 1 vT s.tabs.length (gs.flatMap ptC)∧OwnP mC 3 1 vC s.cnt.length (s.cnt.flatMap ivC) ∧
 gs.length=s.tabs.length∧tms.length=s.tabs.length∧∀ (v:Nat) g t tm,gs[v]?=some g→s.tabs[v]?=some t→tms[v]?=some tm→TabAt g t tm
def NumR (I:PH) (v:Value) (l:List Nat):Prop:=(∃ A c,v=.slice A l.length c)∧(0<l.length→∃ X c,v=.slice (some ⟨X,0,none⟩) l.length c∧∀ (i:Nat) x,l[i]?=some x→I.at X i=some (nv x))
theorem NumR.le {I J:PH} {v:Value} {l:List Nat} (h:NumR I v l) (hJ:I.le J):NumR J v l:=⟨And.left h,fun hl=>by
 obtain ⟨X,c,h1,h2⟩:=And.right h hl
 exact ⟨X,c,h1,fun i x hx=>PH.at_le hJ (h2 i x hx)⟩⟩
theorem OwnP.num {m:PH} {e:TypeId} {v:Value} {l:List Nat} (h:OwnP m e 1 v l.length (l.flatMap ivC)):NumR m v l:=by
 refine ⟨?_,fun hl=>?_⟩
 · obtain ⟨A,c,h1,_⟩:=h.shape
   exact ⟨A,c,h1⟩
 · obtain ⟨X,c,rfl,_⟩:=h.ptr hl
   refine ⟨X,c,rfl,fun i x hx=>?_⟩
   have:=(flat_cells ivC_len h hx).at 0 rfl
   rwa [Nat.mul_one,Nat.add_zero] at this
def StR (I:PH) (S:Nat) (s:G.St):Prop:=StFit s∧∃ L P vV vL vT vC,∃ gs:List Nat,I.at S 0=some (vPt L)∧I.at S 1=some (vPt P)∧I.at S 2=some vT∧I.at S 3=some vC∧I.at S 4=some (nv s.dead)∧I.at L 0=some vV∧I.at L 1=some vL ∧
 NumR I vV s.vars∧NumR I vL s.lev∧PoolR I P s.pl∧NumR I vC s.cnt∧gs.length=s.tabs.length∧(0<s.tabs.length→∃ X c,vT=.slice (some ⟨X,0,none⟩) s.tabs.length c∧∀ (i:Nat) x,gs[i]?=some x→I.at X i=some (vPt x))∧∀ (v:Nat) g t,gs[v]?=some g→s.tabs[v]?=some t→TabR I g t
theorem StR.le {I J:PH} {S:Nat} {s:G.St} (h:StR I S s) (hJ:I.le J):StR J S s:=by
 obtain ⟨h0,L,P,vV,vL,vT,vC,gs,h1,h2,h3,h4,h5,h6,h7,h8,h9,h10,h11,h12,h13,h14⟩:=h
 refine ⟨h0,L,P,vV,vL,vT,vC,gs,PH.at_le hJ h1,PH.at_le hJ h2,PH.at_le hJ h3,PH.at_le hJ h4,PH.at_le hJ h5,PH.at_le hJ h6,PH.at_le hJ h7,h8.le hJ,h9.le hJ,h10.le hJ,h11.le hJ,h12,fun hl=>?_,fun v g t hg ht=>(h14 v g t hg ht).le hJ⟩
 obtain ⟨X,c,e1,e2⟩:=h13 hl
 exact ⟨X,c,e1,fun i x hx=>PH.at_le hJ (e2 i x hx)⟩
theorem StAt.read {S:Nat} {s:G.St} {m:PH} (h:StAt S s m):StR m S s:=by
 obtain ⟨hf,L,P,vV,vL,vT,vC,gs,mV,mL,mP,mT,mC,tms,⟨rfl,hd⟩,hV,hL,hP,hT,hC,hgs,htm,htab⟩:=h
 have hm:∀ q ∈ (PH.one S (.cells #[vPt L,vPt P,vT,vC,nv s.dead] 64)::PH.one L (.cells #[vV,vL] 61)::mV::mL::mP::mT::mC::tms),q.le (PH.all (PH.one S (.cells #[vPt L,vPt P,vT,vC,nv s.dead] 64)::PH.one L (.cells #[vV,vL] 61)::mV::mL::mP::mT::mC::tms)):=fun q hq=>PH.all_mem hd hq
 generalize PH.all _=M at *
 have l0:=hm _ (.head _)
 have l1:=hm _ (.tail _ (.head _))
 refine ⟨hf,L,P,vV,vL,vT,vC,gs,PH.at_le l0 (at_one rfl),PH.at_le l0 (at_one rfl),PH.at_le l0 (at_one rfl),PH.at_le l0 (at_one rfl),PH.at_le l0 (at_one rfl),PH.at_le l1 (at_one rfl),PH.at_le l1 (at_one rfl),
  hV.num.le (hm mV (by simp)),hL.num.le (hm mL (by simp)),hP.read.le (hm mP (by simp)),hC.num.le (hm mC (by simp)),hgs,fun hl=>?_,fun v g t hg ht=>?_⟩
 · obtain ⟨X,c,rfl,_⟩:=hT.ptr hl
   refine ⟨X,c,rfl,fun i x hx=>?_⟩
   have:=((flat_cells ptC_len hT hx).le (hm mT (by simp))).at 0 rfl
   rwa [Nat.mul_one,Nat.add_zero] at this
 · have hv:=(List.getElem?_eq_some_iff.1 ht).1
   have hx:=List.getElem?_eq_getElem (l:=tms) (i:=v) (by omega)
   exact (htab v g t _ hg ht hx).read.le (hm _ (by simp [List.getElem_mem]))
section
variable {w:World} {S:Nat} {s:G.St}
theorem svars_any (h:StR (heapOf w) S s):Calls Tryz.prog 35 #[vPt S] w fun e w'=>e=.returned (nv s.vars.length)∧w=w':=by
 obtain ⟨h0,L,P,vV,vL,vT,vC,gs,h1,h2,h3,h4,h5,h6,h7,h8,h9,h10,h11,h12,h13,h14⟩:=h
 obtain ⟨⟨A,c,rfl⟩,_⟩:=h8
 have hS:=Sat.start w
 clear h2 h3 h4 h5 h7 h9 h10 h11 h12 h13 h14 h0
 go_enter Tryz.func35,Tryz.ntmps35
 go_wp2_with (first|((with_reducible refine atList ?_);first|((with_reducible refine isLoad ?_);( ((refine' ldI1 (v:=_) hS rfl rfl ?ha rfl ?hb ?_);(case ha=>first|exact ty_agg28|exact ty_agg58);(case hb=>assumption)));(try simp only [Act.put,zE,zF,zG]))))
 go_ret
 exact ⟨rfl,rfl⟩
theorem sroom_any (h:StR (heapOf w) S s):Calls Tryz.prog 36 #[vPt S] w fun e w'=>e=.returned (nv s.pl.room)∧w=w':=by
 obtain ⟨h0,L,P,vV,vL,vT,vC,gs,h1,h2,h3,h4,h5,h6,h7,h8,h9,h10,h11,h12,h13,h14⟩:=h
 have hS:=Sat.start w
 have hc:=proom_any h10
 clear h1 h3 h4 h5 h6 h7 h8 h9 h10 h11 h12 h13 h14 h0
 go_enter Tryz.func36,Tryz.ntmps36
 go_wp2_with (first|(go_at_call 71;(with_reducible refine Calls.mono hc ?_);rintro e w9 ⟨rfl,rfl⟩)|((with_reducible refine atList ?_);first|((with_reducible refine isLoad ?_);( ((refine' ldI1 (v:=_) hS rfl rfl ?ha rfl ?hb ?_);(case ha=>exact ty_agg55);(case hb=>assumption)));(try simp only [Act.put,zE,zF,zG]))))
 go_ret
 exact ⟨rfl,rfl⟩
theorem slen_any (h:StR (heapOf w) S s):Calls Tryz.prog 11 #[vPt S] w fun e w'=>e=.returned (nv (G.many s.pl.slots))∧w=w':=by
 obtain ⟨h0,L,P,vV,vL,vT,vC,gs,h1,h2,h3,h4,h5,h6,h7,h8,h9,h10,h11,h12,h13,h14⟩:=h
 have hS:=Sat.start w
 have hc:=plen_any h10
 clear h1 h3 h4 h5 h6 h7 h8 h9 h10 h11 h12 h13 h14 h0
 go_enter Tryz.func11,Tryz.ntmps11
 go_wp2_with (first|(go_at_call 49;(with_reducible refine Calls.mono hc ?_);rintro e w9 ⟨rfl,rfl⟩)|((with_reducible refine atList ?_);first|((with_reducible refine isLoad ?_);( ((refine' ldI1 (v:=_) hS rfl rfl ?ha rfl ?hb ?_);(case ha=>exact ty_agg55);(case hb=>assumption)));(try simp only [Act.put,zE,zF,zG]))))
 go_ret
 exact ⟨rfl,rfl⟩
theorem sdead_any (h:StR (heapOf w) S s):Calls Tryz.prog 12 #[vPt S] w fun e w'=>e=.returned (nv s.dead)∧w=w':=by
 obtain ⟨h0,L,P,vV,vL,vT,vC,gs,h1,h2,h3,h4,h5,h6,h7,h8,h9,h10,h11,h12,h13,h14⟩:=h
 have hS:=Sat.start w
 clear h1 h2 h3 h4 h6 h7 h8 h9 h10 h11 h12 h13 h14 h0
 go_enter Tryz.func12,Tryz.ntmps12
 go_wp2_with (first|((with_reducible refine atList ?_);first|((with_reducible refine isLoad ?_);( ((refine' ldI1 (v:=_) hS rfl rfl ?ha rfl ?hb ?_);(case ha=>exact ty_agg3);(case hb=>assumption)));(try simp only [Act.put,zE,zF,zG]))))
 go_ret
 exact ⟨rfl,rfl⟩
theorem llevel_any {L:Nat} {vL:Value} (h7:(heapOf w).at L 1=some vL) (h9:NumR (heapOf w) vL s.lev) (hl:s.lev.length≤64) (v:Int):Calls Tryz.prog 74 #[vPt L,.int .i64 v] w fun e w'=>e=.returned (.int .i64 (s.level v))∧w=w':=by
 have hS:=Sat.start w
 by_cases c1:0≤v
 · by_cases c2:v<(s.lev.length:Int)
   · obtain ⟨j,rfl⟩:∃ j:Nat,v=(j:Int):=⟨v.toNat,by omega⟩
     have hj:j<s.lev.length:=by omega
     obtain ⟨X,c,rfl,hx⟩:=h9.2 (by omega)
     have hx:=hx j _ (List.getElem?_eq_getElem hj)
     have hr:s.level (j:Int)=((s.lev[j]:Nat):Int):=by
      unfold G.St.level
      rw [if_pos ⟨c1,c2⟩,Int.toNat_natCast,List.getD_eq_getElem?_getD,List.getElem?_eq_getElem hj]
      rfl
     rw [hr]
     generalize s.lev[j]=y at *
     clear h9 hr
     generalize s.lev.length=n at *
     go_enter Tryz.func74,Tryz.ntmps74
     go_wp2_with (first|((with_reducible refine atList ?_);first|((with_reducible refine isGuard ?_);first|((with_reducible refine guarded_yes ?hw ?_);case hw=>(simp only [Region.wanted,yielded,zC,zA,zB,zK,beq_self_eq_true];done))|((refine' guarded_cases (b:=_) ?hy ?_ ?_);(case hy=>(simp only [yielded,zC,zA,zB,zK];exact rfl));all_goals (intro hb;(try simp only [Bool.not_false] at hb);(try simp only [hb]);(try simp only [Act.put,zE,zF,zG]);first|((have hf:False:=by (simp at hb;omega));cases hf)|skip)))|((with_reducible refine isLoad ?_);( ((refine' ldI1 (v:=_) hS rfl rfl ?ha rfl ?hb ?_);(case ha=>first|exact ty_agg3|exact ty_agg28);(case hb=>assumption)));(try simp only [Act.put,zE,zF,zG]))))
     go_ret
     exact ⟨rfl,rfl⟩
   · obtain ⟨⟨A,c,rfl⟩,_⟩:=h9
     have hr:s.level v = -1:=by unfold G.St.level;rw [if_neg (fun h=>c2 h.2)]
     rw [hr]
     generalize s.lev.length=n at *
     go_enter Tryz.func74,Tryz.ntmps74
     go_wp2_with (first|((with_reducible refine atList ?_);first|((with_reducible refine isGuard ?_);first|((with_reducible refine guarded_yes ?hw ?_);case hw=>(simp only [Region.wanted,yielded,zC,zA,zB,zK,beq_self_eq_true];done))|((refine' guarded_cases (b:=_) ?hy ?_ ?_);(case hy=>(simp only [yielded,zC,zA,zB,zK];exact rfl));all_goals (intro hb;(try simp only [Bool.not_false] at hb);(try simp only [hb]);(try simp only [Act.put,zE,zF,zG]);first|((have hf:False:=by (simp at hb;omega));cases hf)|skip)))|((with_reducible refine isLoad ?_);( ((refine' ldI1 (v:=_) hS rfl rfl ?ha rfl ?hb ?_);(case ha =>  exact ty_agg28);(case hb=>assumption)));(try simp only [Act.put,zE,zF,zG]))))
     go_ret
     exact ⟨rfl,rfl⟩
 · have hr:s.level v = -1:=by unfold G.St.level;rw [if_neg (fun h=>c1 h.1)]
   rw [hr]
   have c1':v<0:=by omega
   go_enter Tryz.func74,Tryz.ntmps74
   go_wp2_with (first|((with_reducible refine atList ?_);  ((with_reducible refine isGuard ?_);  ((with_reducible refine guarded_yes ?hw ?_);case hw=>(simp only [Region.wanted,yielded,zC,zA,zB,zK,beq_self_eq_true];done)) ) ))
   go_ret
   exact ⟨rfl,rfl⟩
theorem slevel_any (h:StR (heapOf w) S s) (v:Int):Calls Tryz.prog 43 #[vPt S,.int .i64 v] w fun e w'=>e=.returned (.int .i64 (s.level v))∧w=w':=by
 obtain ⟨h0,L,P,vV,vL,vT,vC,gs,h1,h2,h3,h4,h5,h6,h7,h8,h9,h10,h11,h12,h13,h14⟩:=h
 have hS:=Sat.start w
 have hc:=llevel_any (s:=s) h7 h9 h0.lev v
 clear h2 h3 h4 h5 h6 h7 h8 h9 h10 h11 h12 h13 h14 h0
 go_enter Tryz.func43,Tryz.ntmps43
 go_wp2_with (first|(go_at_call 74;(with_reducible refine Calls.mono hc ?_);rintro e w9 ⟨rfl,rfl⟩)|((with_reducible refine atList ?_);first|((with_reducible refine isLoad ?_);( ((refine' ldI1 (v:=_) hS rfl rfl ?ha rfl ?hb ?_);(case ha=>exact ty_agg58);(case hb=>assumption)));(try simp only [Act.put,zE,zF,zG]))))
 go_ret
 exact ⟨rfl,rfl⟩
end
end Go.Proofs.YtdhkkkhnjooioaaGreat
