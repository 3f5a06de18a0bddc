import Derived.Test.YtidamcdklgfogaaGreatZab
import Derived.Test.YtidamcdklgfogaaGreatZaq
import Derived.Test.YtidamcdklgfogaaGreatZao
import Derived.Test.YtidamcdklgfogaaGreatZas
import Derived.BigQuiet
set_option linter.unusedSimpArgs false
set_option linter.unusedVariables false
set_option maxRecDepth 100000
set_option maxHeartbeats 4000000
namespace Go.Proofs.YtidamcdklgfogaaGreat
section
open Go.RowKit
def endE {α:Type} (ret:α→Value):G.Rs α→Ending
 | .ok a=>.returned (ret a)
 | .stop s=>.panicked (stopE s)
def offT (off c:Nat):Nat:=if c=1 then off else off+3
theorem WtR.tail {I:PH} {X off c:Nat} {ev:G.Ev} {l:List G.Ev} (h3:(ev::l).length≤c) (h4:∀ (i:Nat) e,(ev::l)[i]?=some e→Cells I X (off+i * 3) (gevC e)) :
  WtR I (.slice (some ⟨X,offT off c,none⟩) l.length (c - 1)) l false:=by
 simp only [yB] at h3
 refine ⟨⟨_,_,rfl⟩,fun hl=>⟨X,off+3,c - 1,by rw [offT,if_neg (by omega)],by omega,fun i e he=>?_⟩,fun h=>by cases h⟩
 have:=h4 (i+1) e (by rw [zA];exact he)
 rwa [show off+(i+1) * 3=off+3+i * 3 by omega] at this
theorem wrapI_in {n:Int} (h1 : -9223372036854775808≤n) (h2:n≤9223372036854775807) : -9223372036854775808≤G.wrapI (n+1)∧G.wrapI (n+1)≤9223372036854775807:=by
 unfold G.wrapI
 split <;> omega
theorem wrapI_eq {n:Int} (h1 : -9223372036854775808≤n) (h2:n≤9223372036854775807):IntKind.i64.wrap (n+1)=G.wrapI (n+1):=by
 unfold G.wrapI
 rw [IntKind.wrap_i64]
 split <;> omega
theorem sl_tail (X off n c:Nat) (hn:1≤n) (hc:n≤c) (w:World):(Instr.slice 36 (.slice (some ⟨X,off,none⟩) n c) (some (.int .i64 1)) none none).run Tryz.prog w=.ok (.slice (some ⟨X,offT off c,none⟩) (n - 1) (c - 1)) w:=by
 have ht:Tryz.prog.underlying 36=some (.slice (Tryz.prog.elem 36)):=by kernel_rfl
 have hs:(sizeOf (Tryz.prog.elem 36)).run Tryz.prog w=.ok 3 w:=by kernel_rfl
 rw [run_slice_l w _ _ n c ht .i64 1 (by omega) (by omega),hs]
 simp only [Result.andThen,sliced,offT,show (1:Int).toNat=1 from rfl,Nat.one_mul]
 by_cases h:c=1
 · simp [h]
 · have ha:(⟨X,off,none⟩:Addr).add 3=⟨X,off+3,none⟩:=by unfold Addr.add;split <;> simp_all
   rw [if_neg h,if_neg (fun h'=>h h'),Option.map_some,ha]
theorem xmk_ev {E w:World} {I mS mM mH mW:PH} {ms:List PH} {X D S M H Y off n c:Nat} {nx cl:Int} {ev:G.Ev} (v lo hi:Int) (hX:I.at X 0=some (vPt D)) (hn:1≤n) (hc:n≤c) (hev:Cells mW Y off (gevC ev)) (h1 : -9223372036854775808≤cl) (h2:cl≤9223372036854775807) (hle:ev.after≤G.wrapI (cl+1))
  (hS:Sat E I (PH.one D (.cells (Yn S M H nx (.slice (some ⟨Y,off,none⟩) n c) cl) 117)::mS::mM::mH::mW::ms) w) :
  Calls Tryz.prog 63 #[vPt X,.int .i64 v,.int .i64 lo,.int .i64 hi] w fun e w'=>e=.panicked (stopE (.event ev))∧Sat E I (PH.one D (.cells (Yn S M H nx (.slice (some ⟨Y,offT off c,none⟩) (n - 1) (c - 1)) 0) 117)::mS::mM::mH::mW::ms) w':=by
 have hw:=wrapI_eq h1 h2
 obtain ⟨cw,hcw⟩:∃ cw,cw=G.wrapI (cl+1):=⟨_,rfl⟩
 rw [← hcw] at hle hw
 clear hcw h1 h2
 have hn0:0<n:=hn
 have hev:Cells mW Y off [.int .i64 ev.after,.int .i64 ev.kind,.int .i64 ev.level]:=hev
 have hsl:=fun w=>sl_tail Y off n c hn hc w
 have hpa:∀ (v:Value) (w:World),(Instr.panic (.iface 154 v)).run Tryz.prog w=.halt (.panic (.iface 154 v)) w:=fun _ _=>rfl
 unfold Yn at hS ⊢
 go_enter Tryz.func63,Tryz.ntmps63
 go_wp2_with (first|((with_reducible refine Qc ?_);first|((with_reducible refine Qb ?_);(first|(refine ld1 0 hS rfl rfl ?ha rfl rfl rfl ?_;(case ha =>  exact Qf ))|((refine' Ka (v:=_) hS rfl rfl ?ha rfl ?hb ?_);(case ha =>  exact Ky );(case hb=>assumption)) );(try simp only [Act.put,zE,zF,zG]))|((with_reducible refine Qn ?_);( (refine st1 0 hS rfl rfl rfl rfl rfl ?ha rfl rfl ?hb ?_;(case ha =>  exact Kk );(case hb=>(simp;done))) );clear hS;intro w hS;(try simp only [zF,zG,zE,Act.eval,zD,zC,zA,zB,zJ] at hS);(try simp only [Act.put])) ))
 have x4:=hS.cell_of (.head _) 4
 have x5:=hS.cell_of (.head _) 5
 have y0:w.cell? ⟨Y,off,none⟩=some (.int .i64 ev.after):=Kb (hS.mle (k:=4) rfl) (by have:=hev.at 0 rfl;rwa [Nat.add_zero] at this)
 have d1:decide ((n:Int) > 0)=true:=by simp;omega
 have d2:decide (cw≥ev.after)=true:=by simpa using hle
 go_quiet (fail)
 replace hS:=hS.drewN nq
 clear x4 x5 y0
 go_wp2_with (first|((with_reducible refine Qb ?_);(refine ldPN (hS.mle (k:=4) rfl) rfl rfl ty_agg85 rfl hev ty_sz85 ?_);(try simp only [Act.put,zE,zF,zG]))|((with_reducible refine Qc ?_);first|((with_reducible refine Ql 10 ?_);(refine' al (z:=_) hS rfl rfl ?ha ?_);(case ha=>exact ty_z85);clear hS;intro X10 w hS;(try simp only [Value.cells] at hS);(try simp only [Act.put,zE,zF,zG]))|((with_reducible refine Qb ?_);(first|(refine ld1 0 hS rfl rfl ?ha rfl rfl rfl ?_;(case ha =>  exact ty_agg36 ))|(refine ld1 1 hS rfl rfl ?ha rfl rfl rfl ?_;(case ha =>  exact ty_agg36 ))|(refine ldN 0 hS rfl rfl ?ha rfl rfl ?hb ?_;(case ha=>exact ty_agg85);(case hb=>exact ty_sz85)) );(try simp only [Act.put,zE,zF,zG]))|((with_reducible refine Qn ?_);(first|(refine st1 1 hS rfl rfl rfl rfl rfl ?ha rfl rfl ?hb ?_;(case ha=>first|exact Kk|exact ty_sz36);(case hb=>(simp;done)))|(refine stN 0 hS rfl rfl rfl rfl rfl ?ha rfl rfl ?_;(case ha=>exact ty_sz85)) );clear hS;intro w hS;(try simp only [zF,zG,zE,Act.eval,zD,zC,zA,zB,zJ,Value.cells] at hS);(try simp only [Act.put])) ))
 refine ⟨rfl,?_⟩
 exact (⟨rfl,hS.drop⟩:_∧_)
theorem xmk_no0 {E w:World} {I mS mM mH mW:PH} {ms:List PH} {X D S M H:Nat} {nx cl:Int} {s s':G.St} {r er:Nat} (v lo hi:Int) {A:Option Addr} {c:Nat} (hX:I.at X 0=some (vPt D)) (h1 : -9223372036854775808≤cl) (h2:cl≤9223372036854775807) (hm:s.mkE v lo hi=some (s',r,er)) (hlo:lo<9223372036854775808) (hhi:hi<9223372036854775808) (hT:TabLt s) (hSt:StAt S s mS)
  (hS:Sat E I (PH.one D (.cells (Yn S M H nx (.slice A 0 c) cl) 117)::mS::mM::mH::mW::ms) w) :
  Calls Tryz.prog 63 #[vPt X,.int .i64 v,.int .i64 lo,.int .i64 hi] w fun e w'=>e=endE nv (if er=0 then .ok r else .stop (.err er))∧∃ mS',StAt S s' mS'∧Sat E I (PH.one D (.cells (Yn S M H nx (.slice A 0 c) (G.wrapI (cl+1))) 117)::mS'::mM::mH::mW::ms) w':=by
 have hw:=wrapI_eq h1 h2
 generalize G.wrapI (cl+1)=cw at *
 clear h1 h2
 have HM:=yH hm
 have HT:=yH hT
 have HSt:=yH hSt
 clear hm hT hSt
 have hpa:∀ (v:Value) (w:World),(Instr.panic (.iface 154 v)).run Tryz.prog w=.halt (.panic (.iface 154 v)) w:=fun _ _=>rfl
 unfold Yn at hS ⊢
 by_cases her:er=0
 · subst her
   rw [if_pos rfl]
   go_enter Tryz.func63,Tryz.ntmps63
   go_wp2_with (first|((with_reducible refine Qc ?_);first|((with_reducible refine Qb ?_);(first|(refine ld1 0 hS rfl rfl ?ha rfl rfl rfl ?_;(case ha =>  exact Qf ))|((refine' Ka (v:=_) hS rfl rfl ?ha rfl ?hb ?_);(case ha =>  exact Ky );(case hb=>assumption)) );(try simp only [Act.put,zE,zF,zG]))|((with_reducible refine Qn ?_);( (refine st1 0 hS rfl rfl rfl rfl rfl ?ha rfl rfl ?hb ?_;(case ha =>  exact Kk );(case hb=>(simp;done))) );clear hS;intro w hS;(try simp only [zF,zG,zE,Act.eval,zD,zC,zA,zB,zJ] at hS);(try simp only [Act.put])) ))
   have x4:=hS.cell_of (.head _) 4
   go_quiet (fail)
   replace hS:=hS.drewN nq
   clear x4
   go_wp2_with (first|(go_at_call 105;(with_reducible refine yI (smk_any HM.out hlo hhi HT.out HSt.out (hS.pick 1 rfl)) ?_);clear hS;rintro e w ⟨rfl,mS',hSt',hS⟩;have HSt':=yH hSt';clear hSt';replace hS:=Sat.back (m:=mS) 1 rfl hS;simp only [zF,zG] at hS)|((with_reducible refine Qc ?_);  ((with_reducible refine Qb ?_);( (refine ld1 0 hS rfl rfl ?ha rfl rfl rfl ?_;(case ha =>  exact Qr)) );(try simp only [Act.put,zE,zF,zG])) ))
   go_ret
   exact ⟨rfl,mS',HSt'.out,hS⟩
 · rw [if_neg her]
   have d3:((er:Int) != 0)=true:=by simp;omega
   go_enter Tryz.func63,Tryz.ntmps63
   go_wp2_with (first|((with_reducible refine Qc ?_);first|((with_reducible refine Qb ?_);(first|(refine ld1 0 hS rfl rfl ?ha rfl rfl rfl ?_;(case ha =>  exact Qf ))|((refine' Ka (v:=_) hS rfl rfl ?ha rfl ?hb ?_);(case ha =>  exact Ky );(case hb=>assumption)) );(try simp only [Act.put,zE,zF,zG]))|((with_reducible refine Qn ?_);( (refine st1 0 hS rfl rfl rfl rfl rfl ?ha rfl rfl ?hb ?_;(case ha =>  exact Kk );(case hb=>(simp;done))) );clear hS;intro w hS;(try simp only [zF,zG,zE,Act.eval,zD,zC,zA,zB,zJ] at hS);(try simp only [Act.put])) ))
   have x4:=hS.cell_of (.head _) 4
   go_quiet (fail)
   replace hS:=hS.drewN nq
   clear x4
   go_wp2_with (first|(go_at_call 105;(with_reducible refine yI (smk_any HM.out hlo hhi HT.out HSt.out (hS.pick 1 rfl)) ?_);clear hS;rintro e w ⟨rfl,mS',hSt',hS⟩;have HSt':=yH hSt';clear hSt';replace hS:=Sat.back (m:=mS) 1 rfl hS;simp only [zF,zG] at hS)|((with_reducible refine Qc ?_);  ((with_reducible refine Qb ?_);( (refine ld1 0 hS rfl rfl ?ha rfl rfl rfl ?_;(case ha =>  exact Qr)) );(try simp only [Act.put,zE,zF,zG])) ))
   refine ⟨rfl,?_⟩
   exact And.intro rfl (Exists.intro mS' (And.intro HSt'.out hS))
theorem xmk_no1 {E w:World} {I mS mM mH mW:PH} {ms:List PH} {X D S M H:Nat} {nx cl:Int} {s s':G.St} {r er:Nat} (v lo hi:Int) {Y off n c:Nat} {ev:G.Ev} (hn:1≤n) (hc:n≤c) (hev:Cells mW Y off (gevC ev)) (hle:G.wrapI (cl+1)<ev.after) (hX:I.at X 0=some (vPt D)) (h1 : -9223372036854775808≤cl) (h2:cl≤9223372036854775807) (hm:s.mkE v lo hi=some (s',r,er)) (hlo:lo<9223372036854775808) (hhi:hi<9223372036854775808) (hT:TabLt s) (hSt:StAt S s mS)
  (hS:Sat E I (PH.one D (.cells (Yn S M H nx (.slice (some ⟨Y,off,none⟩) n c) cl) 117)::mS::mM::mH::mW::ms) w) :
  Calls Tryz.prog 63 #[vPt X,.int .i64 v,.int .i64 lo,.int .i64 hi] w fun e w'=>e=endE nv (if er=0 then .ok r else .stop (.err er))∧∃ mS',StAt S s' mS'∧Sat E I (PH.one D (.cells (Yn S M H nx (.slice (some ⟨Y,off,none⟩) n c) (G.wrapI (cl+1))) 117)::mS'::mM::mH::mW::ms) w':=by
 have hw:=wrapI_eq h1 h2
 have hn0:0<n:=hn
 have d1:decide ((n:Int) > 0)=true:=by simp;omega
 have d2:decide (G.wrapI (cl+1)≥ev.after)=false:=by simp;omega
 generalize G.wrapI (cl+1)=cw at *
 clear h1 h2
 have HM:=yH hm
 have HT:=yH hT
 have HSt:=yH hSt
 clear hm hT hSt
 have hpa:∀ (v:Value) (w:World),(Instr.panic (.iface 154 v)).run Tryz.prog w=.halt (.panic (.iface 154 v)) w:=fun _ _=>rfl
 unfold Yn at hS ⊢
 by_cases her:er=0
 · subst her
   rw [if_pos rfl]
   go_enter Tryz.func63,Tryz.ntmps63
   go_wp2_with (first|((with_reducible refine Qc ?_);first|((with_reducible refine Qb ?_);(first|(refine ld1 0 hS rfl rfl ?ha rfl rfl rfl ?_;(case ha =>  exact Qf ))|((refine' Ka (v:=_) hS rfl rfl ?ha rfl ?hb ?_);(case ha =>  exact Ky );(case hb=>assumption)) );(try simp only [Act.put,zE,zF,zG]))|((with_reducible refine Qn ?_);( (refine st1 0 hS rfl rfl rfl rfl rfl ?ha rfl rfl ?hb ?_;(case ha =>  exact Kk );(case hb=>(simp;done))) );clear hS;intro w hS;(try simp only [zF,zG,zE,Act.eval,zD,zC,zA,zB,zJ] at hS);(try simp only [Act.put])) ))
   have x4:=hS.cell_of (.head _) 4
   have x5:=hS.cell_of (.head _) 5
   have y0:w.cell? ⟨Y,off,none⟩=some (.int .i64 ev.after):=Kb (hS.mle (k:=4) rfl) (by have:=hev.at 0 rfl;rwa [Nat.add_zero] at this)
   go_quiet (fail)
   replace hS:=hS.drewN nq
   clear x4 x5 y0
   go_wp2_with (first|(go_at_call 105;(with_reducible refine yI (smk_any HM.out hlo hhi HT.out HSt.out (hS.pick 1 rfl)) ?_);clear hS;rintro e w ⟨rfl,mS',hSt',hS⟩;have HSt':=yH hSt';clear hSt';replace hS:=Sat.back (m:=mS) 1 rfl hS;simp only [zF,zG] at hS)|((with_reducible refine Qc ?_);  ((with_reducible refine Qb ?_);( (refine ld1 0 hS rfl rfl ?ha rfl rfl rfl ?_;(case ha =>  exact Qr)) );(try simp only [Act.put,zE,zF,zG])) ))
   go_ret
   exact ⟨rfl,mS',HSt'.out,hS⟩
 · rw [if_neg her]
   have d3:((er:Int) != 0)=true:=by simp;omega
   go_enter Tryz.func63,Tryz.ntmps63
   go_wp2_with (first|((with_reducible refine Qc ?_);first|((with_reducible refine Qb ?_);(first|(refine ld1 0 hS rfl rfl ?ha rfl rfl rfl ?_;(case ha =>  exact Qf ))|((refine' Ka (v:=_) hS rfl rfl ?ha rfl ?hb ?_);(case ha =>  exact Ky );(case hb=>assumption)) );(try simp only [Act.put,zE,zF,zG]))|((with_reducible refine Qn ?_);( (refine st1 0 hS rfl rfl rfl rfl rfl ?ha rfl rfl ?hb ?_;(case ha =>  exact Kk );(case hb=>(simp;done))) );clear hS;intro w hS;(try simp only [zF,zG,zE,Act.eval,zD,zC,zA,zB,zJ] at hS);(try simp only [Act.put])) ))
   have x4:=hS.cell_of (.head _) 4
   have x5:=hS.cell_of (.head _) 5
   have y0:w.cell? ⟨Y,off,none⟩=some (.int .i64 ev.after):=Kb (hS.mle (k:=4) rfl) (by have:=hev.at 0 rfl;rwa [Nat.add_zero] at this)
   go_quiet (fail)
   replace hS:=hS.drewN nq
   clear x4 x5 y0
   go_wp2_with (first|(go_at_call 105;(with_reducible refine yI (smk_any HM.out hlo hhi HT.out HSt.out (hS.pick 1 rfl)) ?_);clear hS;rintro e w ⟨rfl,mS',hSt',hS⟩;have HSt':=yH hSt';clear hSt';replace hS:=Sat.back (m:=mS) 1 rfl hS;simp only [zF,zG] at hS)|((with_reducible refine Qc ?_);  ((with_reducible refine Qb ?_);( (refine ld1 0 hS rfl rfl ?ha rfl rfl rfl ?_;(case ha =>  exact Qr)) );(try simp only [Act.put,zE,zF,zG])) ))
   refine ⟨rfl,?_⟩
   exact And.intro rfl (Exists.intro mS' (And.intro HSt'.out hS))
theorem MgFit.calls {m:G.Mg} (h:MgFit m) {c:Int} (h1 : -9223372036854775808≤c) (h2:c≤9223372036854775807) (s:G.St) (l:List G.Ev):MgFit { m with s:=s,waits:=l,calls:=c }:=⟨h.1,h1,h2⟩
theorem xmk_any {E w:World} {I p:PH} {ms:List PH} {X D:Nat} {m m':G.Mg} {rs:G.Rs Nat} (v lo hi:Int) (hm:m.mk_ v lo hi=some (m',rs)) (hX:I.at X 0=some (vPt D)) (hlo:lo<9223372036854775808) (hhi:hi<9223372036854775808) (hT:TabLt m.s) (hA:MgAt D m p) (hS:Sat E I (p::ms) w) :
  Calls Tryz.prog 63 #[vPt X,.int .i64 v,.int .i64 lo,.int .i64 hi] w fun e w'=>e=endE nv rs∧∃ p',MgAt D m' p'∧Sat E I (p'::ms) w':=by
 have hfit:=hA.fit
 obtain ⟨S,M,H,wv,mS,mM,mH,mW,hSt,hMe,hHs,hW,hS⟩:=hA.open_ hS
 have hin:=wrapI_in hfit.2.1 hfit.2.2
 obtain ⟨s,me,hs,next,waits,calls,fresh⟩:=m
 simp only at *
 have none_:∀ (s':G.St) (r er:Nat),s.mkE v lo hi=some (s',r,er)→some (m',rs)=(if er=0 then some ({ s:=s',me:=me,hs:=hs,next:=next,waits:=waits,calls:=G.wrapI (calls+1),fresh:=fresh },.ok r) else some ({ s:=s',me:=me,hs:=hs,next:=next,waits:=waits,calls:=G.wrapI (calls+1),fresh:=fresh },.stop (.err er)))→(m'={ s:=s',me:=me,hs:=hs,next:=next,waits:=waits,calls:=G.wrapI (calls+1),fresh:=fresh }∧rs=(if er=0 then .ok r else .stop (.err er))):=fun s' r er _ h=>by
  by_cases he:er=0
  · rw [if_pos he] at h;cases h;exact ⟨rfl,by rw [if_pos he]⟩
  · rw [if_neg he] at h;cases h;exact ⟨rfl,by rw [if_neg he]⟩
 unfold G.Mg.mk_ at hm
 simp only at hm
 cases waits with
 | nil =>
   simp only [G.Mg.mkS] at hm
   cases hmk:s.mkE v lo hi with
   | none=>rw [hmk] at hm;cases hm
   | some q =>
     obtain ⟨s',r,er⟩:=q
     rw [hmk] at hm
     obtain ⟨rfl,rfl⟩:=none_ s' r er hmk hm.symm
     obtain ⟨A,c,rfl⟩:=hW.1
     refine (xmk_no0 v lo hi hX hfit.2.1 hfit.2.2 hmk hlo hhi hT hSt hS).mono ?_
     rintro e w ⟨rfl,mS',hSt',hS⟩
     exact ⟨rfl,MgAt.close (m:={ s:=s',me:=me,hs:=hs,next:=next,waits:=[],calls:=G.wrapI (calls+1),fresh:=fresh }) ⟨hfit.1,hin.1,hin.2⟩ hSt' hMe hHs hW hS⟩
 | cons ev l =>
   have hfr:fresh=false:=by
    cases fresh with
    | false=>rfl
    | true=>have:=(hW.2.2 rfl).2;cases this
   subst hfr
   obtain ⟨Y,off,c,rfl,hc,hcell⟩:=hW.2.1 (Nat.succ_pos _)
   have hev:=hcell 0 ev rfl
   rw [Nat.zero_mul,Nat.add_zero] at hev
   replace hm:(if ev.after≤G.wrapI (calls+1) then some (({ s:=s,me:=me,hs:=hs,next:=next,waits:=l,calls:=0,fresh:=false }:G.Mg),G.Rs.stop (G.Stop.event ev)) else G.Mg.mkS { s:=s,me:=me,hs:=hs,next:=next,waits:=ev::l,calls:=G.wrapI (calls+1),fresh:=false } v lo hi)=some (m',rs):=hm
   by_cases hle:ev.after≤G.wrapI (calls+1)
   · rw [if_pos hle] at hm
     cases hm
     refine (xmk_ev v lo hi hX (Nat.succ_pos _) hc hev hfit.2.1 hfit.2.2 hle hS).mono ?_
     rintro e w ⟨rfl,hS⟩
     refine ⟨rfl,MgAt.close (m:={ s:=s,me:=me,hs:=hs,next:=next,waits:=l,calls:=0,fresh:=false }) ⟨hfit.1,by show (-9223372036854775808:Int)≤0;omega,by show (0:Int)≤9223372036854775807;omega⟩ hSt hMe hHs (WtR.tail hc hcell) ?_⟩
     exact hS
   · rw [if_neg hle] at hm
     simp only [G.Mg.mkS] at hm
     cases hmk:s.mkE v lo hi with
     | none=>rw [hmk] at hm;cases hm
     | some q =>
       obtain ⟨s',r,er⟩:=q
       rw [hmk] at hm
       obtain ⟨rfl,rfl⟩:=none_ s' r er hmk hm.symm
       refine (xmk_no1 v lo hi (Nat.succ_pos _) hc hev (Int.not_le.1 hle) hX hfit.2.1 hfit.2.2 hmk hlo hhi hT hSt hS).mono ?_
       rintro e w ⟨rfl,mS',hSt',hS⟩
       exact ⟨rfl,MgAt.close (m:={ s:=s',me:=me,hs:=hs,next:=next,waits:=ev::l,calls:=G.wrapI (calls+1),fresh:=false }) ⟨hfit.1,hin.1,hin.2⟩ hSt' hMe hHs hW hS⟩
end
end Go.Proofs.YtidamcdklgfogaaGreat
