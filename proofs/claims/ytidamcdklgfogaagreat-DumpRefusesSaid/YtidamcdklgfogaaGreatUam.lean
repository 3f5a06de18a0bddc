import Derived.Test.YtidamcdklgfogaaGreatUal
import Derived.TacticsInMore
import Derived.LoopNIn
import Derived.LoopIn
import Derived.Outline
import Derived.Shelf.Abstract
import Derived.Shelf.RegionOpen
import Derived.StillTailTactics
set_option linter.unusedSectionVars false
set_option linter.unusedVariables false
set_option linter.unusedSimpArgs false
set_option maxRecDepth 100000
set_option maxHeartbeats 4000000
namespace Go.Proofs.YtidamcdklgfogaaGreat
section
open Go.RowKit
def Yl{α:Type}(ret:α->Value):G.Rs α->Ending
 | .ok a=>.returned (ret a)
 | .stop s=>.panicked (stopE s)
def offT(off c:Nat):Nat:=if c=1 then off else off+3
theorem WtR.tail{I:PH}{X off c:Nat}{ev:G.Ev}{l:List G.Ev}(h3:(ev::l).length<=c)(h4:∀(i:Nat) e,(ev::l)[i]?=some e->Cells I X (off+i*3) (gevC e)) :
  WtR I (.slice (some ⟨X,offT off c,none⟩) l.length (c-1)) l false:=by
 simp only[yB] at h3;refine⟨⟨_,_,rfl⟩,λhl=>⟨X,off+3,c-1,by rw[offT,jAa (by omega)],by omega,λi e he=>?_⟩,λh=>by cases h⟩
 have:=h4 (i+1) e (by rw[zA];exact he)
 rwa [show off+(i+1)*3=off+3+i*3 by omega] at this
theorem wrapI_in{n:Int}(h1 : -9223372036854775808<=n)(h2:n<=9223372036854775807) : -9223372036854775808<=G.wrapI (n+1)/\G.wrapI (n+1)<=9223372036854775807:=by
 unfold G.wrapI;split <;> omega
theorem wrapI_eq{n:Int}(h1 : -9223372036854775808<=n)(h2:n<=9223372036854775807):IntKind.i64.wrap (n+1)=G.wrapI (n+1):=by
 unfold G.wrapI;rw[IntKind.wrap_i64];split <;> omega
theorem sl_tail(X off n c:Nat)(hn:1<=n)(hc:n<=c)(w:World):(Instr.slice 36 (.slice (some ⟨X,off,none⟩) n c) (some (.int .i64 1)) none none).run Tryz.prog w=.ok (.slice (some ⟨X,offT off c,none⟩) (n-1) (c-1)) w:=by
 have ht:Tryz.prog.underlying 36=some (.slice (Tryz.prog.elem 36)):=by kernel_rfl
 have hs:(sizeOf (Tryz.prog.elem 36)).run Tryz.prog w=.ok 3 w:=by kernel_rfl
 rw[run_slice_l w _ _ n c ht .i64 1 (by omega) (by omega),hs];simp only[Result.andThen,sliced,offT,show (1:Int).toNat=1 from rfl,Nat.one_mul];by_cases h:c=1
 . simp[h]
 . have ha:(⟨X,off,none⟩:Addr).add 3=⟨X,off+3,none⟩:=by unfold Addr.add;split <;> simp_all
   rw[jAa h,jAa (λh'=>h h'),Option.map_some,ha]
theorem xmk_ev{E w:World}{I mS mM mH mW:PH}{ms:List PH}{X D S M H Y off n c:Nat}{nx cl:Int}{ev:G.Ev}(v lo hi:Int)(hX:I.at X 0=some (vPt D))(hn:1<=n)(hc:n<=c)(hev:Cells mW Y off (gevC ev))(h1 : -9223372036854775808<=cl)(h2:cl<=9223372036854775807)(hle:ev.after<=G.wrapI (cl+1))
  (hS:Sat E I (PH.one D (.cells (Xe S M H nx (.slice (some ⟨Y,off,none⟩) n c) cl) 117)::mS::mM::mH::mW::ms) w) :
  Calls Tryz.prog 63 #[vPt X,.int .i64 v,.int .i64 lo,.int .i64 hi] w λe w'=>e=.panicked (stopE (.event ev))/\Sat E I (PH.one D (.cells (Xe S M H nx (.slice (some ⟨Y,offT off c,none⟩) (n-1) (c-1)) 0) 117)::mS::mM::mH::mW::ms) w':=by
 have hw:=wrapI_eq h1 h2;obtain⟨cw,hcw⟩:∃cw,cw=G.wrapI (cl+1):=⟨_,rfl⟩;rw[<- hcw] at hle hw;clear hcw h1 h2;have hn0:0<n:=hn;have hev:Cells mW Y off [.int .i64 ev.after,.int .i64 ev.kind,.int .i64 ev.level]:=hev;have hsl:=λw=>sl_tail Y off n c hn hc w
 have hpa:∀(v:Value) (w:World),(Instr.panic (.iface 154 v)).run Tryz.prog w=.halt (.panic (.iface 154 v)) w:=λ_ _=>rfl
 unfold Xe at hS ⊢;go_enter Tryz.func63,Tryz.ntmps63;go_wp2_with (first|(refine aL ?_)|(refine aS ?_;clear hS;intro w hS))
 have x4:=hS.cell_of (.head _) 4;have x5:=hS.cell_of (.head _) 5;have y0:w.cell? ⟨Y,off,none⟩=some (.int .i64 ev.after):=Ql (hS.mle (k:=4) rfl) (by have:=hev.at 0 rfl;rwa [Nat.add_zero] at this);have d1:decide ((n:Int)>0)=true:=by simp;omega
 have d2:decide (cw≥ev.after)=true:=by simpa using hle
 go_quiet (fail)
 replace hS:=hS.drewN nq;clear x4 x5 y0;go_wp2_with (first|((with_reducible refine Qe ?_);(refine ldPN (hS.mle (k:=4) rfl) rfl rfl ty_agg85 rfl hev ty_sz85 ?_);refine aM ?_)|(refine aN 10 ?_;clear hS;intro X10 w hS)|(refine aL ?_)|(refine aS ?_;clear hS;intro w hS))
 refine⟨rfl,?_⟩;exact (⟨rfl,hS.drop⟩:_/\_)
theorem xmk_no0{E w:World}{I mS mM mH mW:PH}{ms:List PH}{X D S M H:Nat}{nx cl:Int}{s s':G.St}{r er:Nat}(v lo hi:Int){A:Option Addr}{c:Nat}(hX:I.at X 0=some (vPt D))(h1 : -9223372036854775808<=cl)(h2:cl<=9223372036854775807)(hm:s.mkE v lo hi=some (s',r,er))(hlo:lo<9223372036854775808)(hhi:hi<9223372036854775808)(hT:TabLt s)(hSt:StAt S s mS)
  (hS:Sat E I (PH.one D (.cells (Xe S M H nx (.slice A 0 c) cl) 117)::mS::mM::mH::mW::ms) w) :
  Calls Tryz.prog 63 #[vPt X,.int .i64 v,.int .i64 lo,.int .i64 hi] w λe w'=>e=Yl nv (if er=0 then .ok r else .stop (.err er))/\∃mS',StAt S s' mS'/\Sat E I (PH.one D (.cells (Xe S M H nx (.slice A 0 c) (G.wrapI (cl+1))) 117)::mS'::mM::mH::mW::ms) w':=by
 have hw:=wrapI_eq h1 h2;generalize G.wrapI (cl+1)=cw at *
 clear h1 h2;have HM:=yH hm;have HT:=yH hT;have HSt:=yH hSt;clear hm hT hSt;have hpa:∀(v:Value) (w:World),(Instr.panic (.iface 154 v)).run Tryz.prog w=.halt (.panic (.iface 154 v)) w:=λ_ _=>rfl
 unfold Xe at hS ⊢;by_cases her:er=0
 . subst her
   rw[jAb rfl];go_enter Tryz.func63,Tryz.ntmps63;go_wp2_with (first|(refine aL ?_)|(refine aS ?_;clear hS;intro w hS))
   have x4:=hS.cell_of (.head _) 4;go_quiet (fail)
   replace hS:=hS.drewN nq;clear x4;go_wp2_with (first|(go_at_call 105;(with_reducible refine yI (smk_any HM.out hlo hhi HT.out HSt.out (hS.pick 1 rfl)) ?_);clear hS;rintro e w ⟨rfl,mS',hSt',hS⟩;have HSt':=yH hSt';clear hSt';replace hS:=Sat.back (m:=mS) 1 rfl hS;simp only[zF,zG] at hS)|(refine aL ?_))
   go_ret;exact⟨rfl,mS',HSt'.out,hS⟩
 . rw[jAa her]
   have d3:((er:Int) != 0)=true:=by simp;omega
   go_enter Tryz.func63,Tryz.ntmps63;go_wp2_with (first|(refine aL ?_)|(refine aS ?_;clear hS;intro w hS))
   have x4:=hS.cell_of (.head _) 4;go_quiet (fail)
   replace hS:=hS.drewN nq;clear x4;go_wp2_with (first|(go_at_call 105;(with_reducible refine yI (smk_any HM.out hlo hhi HT.out HSt.out (hS.pick 1 rfl)) ?_);clear hS;rintro e w ⟨rfl,mS',hSt',hS⟩;have HSt':=yH hSt';clear hSt';replace hS:=Sat.back (m:=mS) 1 rfl hS;simp only[zF,zG] at hS)|(refine aL ?_))
   refine⟨rfl,?_⟩;exact And.intro rfl (Exists.intro mS' (And.intro HSt'.out hS))
theorem xmk_no1{E w:World}{I mS mM mH mW:PH}{ms:List PH}{X D S M H:Nat}{nx cl:Int}{s s':G.St}{r er:Nat}(v lo hi:Int){Y off n c:Nat}{ev:G.Ev}(hn:1<=n)(hc:n<=c)(hev:Cells mW Y off (gevC ev))(hle:G.wrapI (cl+1)<ev.after)(hX:I.at X 0=some (vPt D))(h1 : -9223372036854775808<=cl)(h2:cl<=9223372036854775807)(hm:s.mkE v lo hi=some (s',r,er))(hlo:lo<9223372036854775808)(hhi:hi<9223372036854775808)(hT:TabLt s)(hSt:StAt S s mS)
  (hS:Sat E I (PH.one D (.cells (Xe S M H nx (.slice (some ⟨Y,off,none⟩) n c) cl) 117)::mS::mM::mH::mW::ms) w) :
  Calls Tryz.prog 63 #[vPt X,.int .i64 v,.int .i64 lo,.int .i64 hi] w λe w'=>e=Yl nv (if er=0 then .ok r else .stop (.err er))/\∃mS',StAt S s' mS'/\Sat E I (PH.one D (.cells (Xe S M H nx (.slice (some ⟨Y,off,none⟩) n c) (G.wrapI (cl+1))) 117)::mS'::mM::mH::mW::ms) w':=by
 have hw:=wrapI_eq h1 h2;have hn0:0<n:=hn;have d1:decide ((n:Int)>0)=true:=by simp;omega
 have d2:decide (G.wrapI (cl+1)≥ev.after)=false:=by simp;omega
 generalize G.wrapI (cl+1)=cw at *
 clear h1 h2;have HM:=yH hm;have HT:=yH hT;have HSt:=yH hSt;clear hm hT hSt;have hpa:∀(v:Value) (w:World),(Instr.panic (.iface 154 v)).run Tryz.prog w=.halt (.panic (.iface 154 v)) w:=λ_ _=>rfl
 unfold Xe at hS ⊢;by_cases her:er=0
 . subst her
   rw[jAb rfl];go_enter Tryz.func63,Tryz.ntmps63;go_wp2_with (first|(refine aL ?_)|(refine aS ?_;clear hS;intro w hS))
   have x4:=hS.cell_of (.head _) 4;have x5:=hS.cell_of (.head _) 5;have y0:w.cell? ⟨Y,off,none⟩=some (.int .i64 ev.after):=Ql (hS.mle (k:=4) rfl) (by have:=hev.at 0 rfl;rwa [Nat.add_zero] at this);go_quiet (fail)
   replace hS:=hS.drewN nq;clear x4 x5 y0;go_wp2_with (first|(go_at_call 105;(with_reducible refine yI (smk_any HM.out hlo hhi HT.out HSt.out (hS.pick 1 rfl)) ?_);clear hS;rintro e w ⟨rfl,mS',hSt',hS⟩;have HSt':=yH hSt';clear hSt';replace hS:=Sat.back (m:=mS) 1 rfl hS;simp only[zF,zG] at hS)|(refine aL ?_))
   go_ret;exact⟨rfl,mS',HSt'.out,hS⟩
 . rw[jAa her]
   have d3:((er:Int) != 0)=true:=by simp;omega
   go_enter Tryz.func63,Tryz.ntmps63;go_wp2_with (first|(refine aL ?_)|(refine aS ?_;clear hS;intro w hS))
   have x4:=hS.cell_of (.head _) 4;have x5:=hS.cell_of (.head _) 5;have y0:w.cell? ⟨Y,off,none⟩=some (.int .i64 ev.after):=Ql (hS.mle (k:=4) rfl) (by have:=hev.at 0 rfl;rwa [Nat.add_zero] at this);go_quiet (fail)
   replace hS:=hS.drewN nq;clear x4 x5 y0;go_wp2_with (first|(go_at_call 105;(with_reducible refine yI (smk_any HM.out hlo hhi HT.out HSt.out (hS.pick 1 rfl)) ?_);clear hS;rintro e w ⟨rfl,mS',hSt',hS⟩;have HSt':=yH hSt';clear hSt';replace hS:=Sat.back (m:=mS) 1 rfl hS;simp only[zF,zG] at hS)|(refine aL ?_))
   refine⟨rfl,?_⟩;exact And.intro rfl (Exists.intro mS' (And.intro HSt'.out hS))
theorem MgFit.calls{m:G.Mg}(h:MgFit m){c:Int}(h1 : -9223372036854775808<=c)(h2:c<=9223372036854775807)(s:G.St)(l:List G.Ev):MgFit { m with s:=s,waits:=l,calls:=c }:=⟨h.1,h1,h2⟩
theorem xmk_any{E w:World}{I p:PH}{ms:List PH}{X D:Nat}{m m':G.Mg}{rs:G.Rs Nat}(v lo hi:Int)(hm:m.mk_ v lo hi=some (m',rs))(hX:I.at X 0=some (vPt D))(hlo:lo<9223372036854775808)(hhi:hi<9223372036854775808)(hT:TabLt m.s)(hA:MgAt D m p)(hS:Sat E I (p::ms) w) :
  Calls Tryz.prog 63 #[vPt X,.int .i64 v,.int .i64 lo,.int .i64 hi] w λe w'=>e=Yl nv rs/\∃p',MgAt D m' p'/\Sat E I (p'::ms) w':=by
 have hfit:=hA.fit;obtain⟨S,M,H,wv,mS,mM,mH,mW,hSt,hMe,hHs,hW,hS⟩:=hA.open_ hS;have hin:=wrapI_in hfit.2.1 hfit.2.2;obtain⟨s,me,hs,next,waits,calls,fresh⟩:=m;simp only at *
 have none_:∀(s':G.St) (r er:Nat),s.mkE v lo hi=some (s',r,er)->some (m',rs)=(if er=0 then some ({ s:=s',me:=me,hs:=hs,next:=next,waits:=waits,calls:=G.wrapI (calls+1),fresh:=fresh },.ok r) else some ({ s:=s',me:=me,hs:=hs,next:=next,waits:=waits,calls:=G.wrapI (calls+1),fresh:=fresh },.stop (.err er)))->(m'={ s:=s',me:=me,hs:=hs,next:=next,waits:=waits,calls:=G.wrapI (calls+1),fresh:=fresh }/\rs=(if er=0 then .ok r else .stop (.err er))):=λs' r er _ h=>by
  by_cases he:er=0
  . rw[jAb he] at h;cases h;exact⟨rfl,by rw[jAb he]⟩
  . rw[jAa he] at h;cases h;exact⟨rfl,by rw[jAa he]⟩
 unfold G.Mg.mk_ at hm;simp only at hm;cases waits with
 | nil =>
   simp only[G.Mg.mkS] at hm;cases hmk:s.mkE v lo hi with
   | none=>rw[hmk] at hm;cases hm
   | some q =>
     obtain⟨s',r,er⟩:=q;rw[hmk] at hm;obtain⟨rfl,rfl⟩:=none_ s' r er hmk hm.symm;obtain⟨A,c,rfl⟩:=hW.1;refine (xmk_no0 v lo hi hX hfit.2.1 hfit.2.2 hmk hlo hhi hT hSt hS).mono ?_;rintro e w ⟨rfl,mS',hSt',hS⟩;exact⟨rfl,MgAt.close (m:={ s:=s',me:=me,hs:=hs,next:=next,waits:=[],calls:=G.wrapI (calls+1),fresh:=fresh }) ⟨hfit.1,hin.1,hin.2⟩ hSt' hMe hHs hW hS⟩
 | cons ev l =>
   have hfr:fresh=false:=by
    cases fresh with
    | false=>rfl
    | true=>have:=(hW.2.2 rfl).2;cases this
   subst hfr;obtain⟨Y,off,c,rfl,hc,hcell⟩:=hW.2.1 (Nat.succ_pos _);have hev:=hcell 0 ev rfl;rw[kWa,Nat.add_zero] at hev;replace hm:(if ev.after<=G.wrapI (calls+1) then some (({ s:=s,me:=me,hs:=hs,next:=next,waits:=l,calls:=0,fresh:=false }:G.Mg),G.Rs.stop (G.Stop.event ev)) else G.Mg.mkS { s:=s,me:=me,hs:=hs,next:=next,waits:=ev::l,calls:=G.wrapI (calls+1),fresh:=false } v lo hi)=some (m',rs):=hm;by_cases hle:ev.after<=G.wrapI (calls+1)
   . rw[jAb hle] at hm
     cases hm;refine (xmk_ev v lo hi hX (Nat.succ_pos _) hc hev hfit.2.1 hfit.2.2 hle hS).mono ?_;rintro e w ⟨rfl,hS⟩;refine⟨rfl,MgAt.close (m:={ s:=s,me:=me,hs:=hs,next:=next,waits:=l,calls:=0,fresh:=false }) ⟨hfit.1,by show (-9223372036854775808:Int)<=0;omega,by show (0:Int)<=9223372036854775807;omega⟩ hSt hMe hHs (WtR.tail hc hcell) ?_⟩;exact hS
   . rw[jAa hle] at hm
     simp only[G.Mg.mkS] at hm;cases hmk:s.mkE v lo hi with
     | none=>rw[hmk] at hm;cases hm
     | some q =>
       obtain⟨s',r,er⟩:=q;rw[hmk] at hm;obtain⟨rfl,rfl⟩:=none_ s' r er hmk hm.symm;refine (xmk_no1 v lo hi (Nat.succ_pos _) hc hev (Int.not_le.1 hle) hX hfit.2.1 hfit.2.2 hmk hlo hhi hT hSt hS).mono ?_;rintro e w ⟨rfl,mS',hSt',hS⟩;exact⟨rfl,MgAt.close (m:={ s:=s',me:=me,hs:=hs,next:=next,waits:=ev::l,calls:=G.wrapI (calls+1),fresh:=false }) ⟨hfit.1,hin.1,hin.2⟩ hSt' hMe hHs hW hS⟩
end
section
open Go.RowKit
theorem sdrop_any{E w:World}{I m:PH}{ms:List PH}{S:Nat}{s s':G.St}{f:Int}{er:Nat}(hm:s.drop f=some (s',er))(hf:f<9223372036854775808)(hA:StAt S s m)(hS:Sat E I (m::ms) w) :
  Calls Tryz.prog 109 #[vPt S,.int .i64 f] w λe w'=>e=.returned (nv er)/\∃m',StAt S s' m'/\Sat E I (m'::ms) w':=by
 unfold G.St.drop at hm;cases b1:s.is f with
 | false =>
   rw[b1] at hm;cases hm;obtain⟨J,lJ,mJ,hS,back⟩:=hS.ice;have hR:=hA.read.le mJ;have Hback:=yH back;have HA:=yH hA;have HI:=yH (λ(w':World) (hle:J.le (Qa w'))=>sis_any (hR.le hle) f hf);rw[b1] at HI;clear hR back hA mJ lJ;go_enter Tryz.func109,Tryz.ntmps109;go_wp2_with (first|(go_at_call 103;(with_reducible refine bB hS (HI.out _ hS.ile) ?_);clear hS;intro w hS))
   go_ret;exact⟨rfl,m,HA.out,Hback.out _ _ hS⟩
 | true =>
 obtain⟨f,rfl⟩:∃a:Nat,f=(a:Int):=⟨f.toNat,by have:0<=f:=by { unfold G.St.is at b1;simp only[jI,jPa] at b1;exact b1.1 };omega⟩;have hAA:=hA;obtain⟨h0,L,P,vV,vL,vT,vC,gs,mV,mL,mP,mT,mC,tms,hbd,hV,hL,hP,hT,hC,hgs,htm,htab⟩:=hAA;have hpl:=hP.1;have hf1:=is_lt hpl b1;have hf2:f<4611686018427387904:=by omega
 obtain⟨J,lJ,mJ,hS,back⟩:=hS.ice;have Hback:=yH back;have hR:=hA.read.le mJ;have HI:=yH (λ(w':World) (hle:J.le (Qa w'))=>sis_any (hR.le hle) f (by omega));have HN:=yH (λw':World=>Xs w' f (by omega));rw[b1] at hm HI;clear hf;simp only[kC,jFa,jOb,Int.toNat_natCast] at hm;have mPm:mP.le m:=by rw[hbd.1];exact PH.all_mem hbd.2 (by simp)
 have hpat:=λ(w':World) (hle:J.le (Qa w'))=>pat_nat (hP.read.le (λb o hb=>hle b o (mJ b o (mPm b o hb)))) (f/2)
 have iS1:J.at S 1=some (vPt P):=PH.at_le (λb o hb=>mJ b o (PH.all_mem hbd.2 (.head _) b o hb |> λh=>by rw[hbd.1];exact h)) (Qb rfl);cases hn:s.nd (f/2) with
 | none =>
   rw[hn] at hm;cases hm;rw[show s.pl.nd (f/2)=none from hn] at hpat;have HPat:=yH hpat;have HAA:=yH hA;have HV5:=yH (Km (f/2) none).1;have HV1:=yH (Km (f/2) none).2;clear hpat hn hR back hA mJ lJ h0 hbd hV hL hP hT hC hgs htm htab hpl mPm;go_enter Tryz.func109,Tryz.ntmps109;go_wp2_with (first|(go_at_call 103;(with_reducible refine bB hS (HI.out _ hS.ile) ?_);clear hS;intro w hS))
   have hS:Sat E J ([]++ms) w:=hS;have HPA:=yH (λ(w':World) (hle:J.le (Qa w'))=>HPat.out w' hle);have HA:=HPA;clear HPat;refine Zf [[],[0],[0,1],[0,1,2],[],[4],[0,1,2,3,4,5],[0,1,2,3,4,5,6],[0,1,2,3,4,5,6,7],[0,1,2,3,4,5,6,7],[],[0,1,2,3,4,5,6,7,8,10],[0,1,2,3,4,5,6,7,8,9,10,11]] _ _ [] _ [⟨10,11,194,#[.int .i64 0,.int .i64 0,.int .i64 0,.int .i64 0,.int .i64 0],λcs _=>cs=(ndW (f/2) none).cells⟩] [λv _=>v=vPt S,λv _=>v=vPt S,λv _=>v=.pointer (some ⟨S,1,none⟩),λv _=>v=vPt P,λv _=>v=nv (f),λv _=>v=nv ((f)/2),λv _=>v=.tuple #[ndW (f/2) none,.bool (false)],λv _=>v=.tuple #[ndW (f/2) none,.bool (false)],λv _=>v=ndW (f/2) none,λv _=>v=.bool (false),λ_ _=>True,λ_ _=>True,λv _=>v=.bool (false)]
    (by kernel_rfl) (by kernel_rfl) (by simp) hS ?_ ?monoC ?okb ?dal ?fill ?plain ?fin
   . exact bL
   case monoC =>
    exact bM
   case okb =>
    intro b' hb';simp only[jBa,jCa,jJb] at hb';subst hb';exact⟨by simp,⟨rfl,rfl,rfl⟩,⟨_,Zw Xb,rfl⟩,⟨rfl,rfl,_,rfl⟩,by simp,Zx Qz⟩
   case dal =>
    exact bN
   case fill =>
    intro b' hb' vals J hJ hg;simp only[jBa,jCa,jJb] at hb';subst hb';simp only[zH,zI,Given,Facts] at hg;refine⟨ndW (f/2) none,by simp only[Zc,Qc,Qo,Qi,Qd,zH,zI,zA,zB,zK,jEb,Act.put,zE,zF,zG,Act.eval,zD,zC,zJ,hg],HV5.out,HV1.out,rfl⟩
   case plain =>
    repeat' (first|exact trivial|apply And.intro)
    all_goals first
     | (refine .inl (by rfl))
     | ((refine .inr ?_;intro vals J bs w hg hJ hS;refine bS ?_;intro K HK;(first|(refine bJ ?_)|(go_wp2_with (first|(go_at_call 49;with_reducible refine bC (HN.out _) ?_)|(go_at_call 128;((with_reducible refine bB hS (HA.out _ (PH.le.trans hJ hS.ile)) ?_);clear hS;intro w2 hS)))));( refine HK.out _ _ ⟨rfl,J,PH.le.refl _,hS,?_⟩ );clear HK;simp only[Facts,Qk,zH,zI,Act.put,zE,zF,zG,zD,zC,zA,zB,zJ]);done)
   case fin =>
    intro vals J9 bs w1 hJ9 hg hS hB;cases hB with
    | cons h1 hB =>
    cases hB;simp only[Bx.st,jEb] at h1;obtain⟨Y,cY,eY,rfl,zY,rfl⟩:=h1;have e10:vals 10=vPt Y:=eY;clear HPA HV5 HV1;have hS:=hS.less hJ9;simp only[List.nil_append,List.cons_append] at hS;refine bH ?_;clear hg;go_wp2_with fail
    go_ret;exact⟨rfl,m,HAA.out,(Hback.out _ _ hS).perm (List.Perm.swap _ _ _) |>.drop⟩
 | some n =>
   rw[hn] at hm;simp only[] at hm;rw[show s.pl.nd (f/2)=some n from hn] at hpat;have HPat:=yH hpat;have HAA:=yH hA;have HV5:=yH (Km (f/2) (some n)).1;have HV1:=yH (Km (f/2) (some n)).2;have hnf:=hpl.nd (f/2) n (G.Pl.nd_some.1 hn).2;have hnr:=hnf.2.2.2;have HP:=yH hP;have Hbd:=yH hbd;have Hnd:=yH (show s.pl.nd (f/2)=some n from hn);have hclose:∀(p':G.Pl) (mP':PH) (ns:List PH) (w':World),PoolAt P p' mP'->Sat E I (PH.one S (.cells #[vPt L,vPt P,vT,vC,nv s.dead] 164)::PH.one L (.cells #[vV,vL] 166)::mV::mL::mP'::mT::mC::(tms++ns)) w'->∃m',StAt S { s with pl:=p' } m'/\Sat E I (m'::ns) w' :=
    λp' mP' ns w' hp' hS'=>StAt.close (s:={ s with pl:=p' }) ⟨h0.vars,h0.lev,h0.tabs,h0.cnt,h0.cntb,h0.dead,h0.levb,h0.varb⟩ hV hL hp' hT hC hgs htm htab hS'
   have Hclose:=yH hclose;clear hpat hclose back hA mJ lJ h0 hbd hV hL hP hT hC hgs htm htab mPm;by_cases hz:n.refs=0
   . rw[jAb hz] at hm
     cases hm;have hnz:n={ n with refs:=0 }:=by rw[<- hz]
     rw[hnz] at HV5 HV1 HPat;clear hnz;clear Hnd hR hn hnf hpl;go_enter Tryz.func109,Tryz.ntmps109;go_wp2_with (first|(go_at_call 103;(with_reducible refine bB hS (HI.out _ hS.ile) ?_);clear hS;intro w hS))
     have hS:Sat E J ([]++ms) w:=hS;have HPA:=yH (λ(w':World) (hle:J.le (Qa w'))=>HPat.out w' hle);have HA:=HPA;clear HPat;refine Zf [[],[0],[0,1],[0,1,2],[],[4],[0,1,2,3,4,5],[0,1,2,3,4,5,6],[0,1,2,3,4,5,6,7],[0,1,2,3,4,5,6,7],[],[0,1,2,3,4,5,6,7,8,10],[0,1,2,3,4,5,6,7,8,9,10,11]] _ _ [] _ [⟨10,11,194,#[.int .i64 0,.int .i64 0,.int .i64 0,.int .i64 0,.int .i64 0],λcs _=>cs=(ndW (f/2) (some { n with refs:=0 })).cells⟩] [λv _=>v=vPt S,λv _=>v=vPt S,λv _=>v=.pointer (some ⟨S,1,none⟩),λv _=>v=vPt P,λv _=>v=nv (f),λv _=>v=nv ((f)/2),λv _=>v=.tuple #[ndW (f/2) (some { n with refs:=0 }),.bool (true)],λv _=>v=.tuple #[ndW (f/2) (some { n with refs:=0 }),.bool (true)],λv _=>v=ndW (f/2) (some { n with refs:=0 }),λv _=>v=.bool (true),λ_ _=>True,λ_ _=>True,λv _=>v=.bool (true)]
      (by kernel_rfl) (by kernel_rfl) (by simp) hS ?_ ?monoC ?okb ?dal ?fill ?plain ?fin
     . exact bL
     case monoC =>
      exact bM
     case okb =>
      intro b' hb';simp only[jBa,jCa,jJb] at hb';subst hb';exact⟨by simp,⟨rfl,rfl,rfl⟩,⟨_,Zw Xb,rfl⟩,⟨rfl,rfl,_,rfl⟩,by simp,Zx Qz⟩
     case dal =>
      exact bN
     case fill =>
      intro b' hb' vals J hJ hg;simp only[jBa,jCa,jJb] at hb';subst hb';simp only[zH,zI,Given,Facts] at hg;refine⟨ndW (f/2) (some { n with refs:=0 }),by simp only[Zc,Qc,Qo,Qi,Qd,zH,zI,zA,zB,zK,jEb,Act.put,zE,zF,zG,Act.eval,zD,zC,zJ,hg],HV5.out,HV1.out,rfl⟩
     case plain =>
      repeat' (first|exact trivial|apply And.intro)
      all_goals first
       | (refine .inl (by rfl))
       | ((refine .inr ?_;intro vals J bs w hg hJ hS;refine bS ?_;intro K HK;(first|(refine bJ ?_)|(go_wp2_with (first|(go_at_call 49;with_reducible refine bC (HN.out _) ?_)|(go_at_call 128;((with_reducible refine bB hS (HA.out _ (PH.le.trans hJ hS.ile)) ?_);clear hS;intro w2 hS)))));( refine HK.out _ _ ⟨rfl,J,PH.le.refl _,hS,?_⟩ );clear HK;simp only[Facts,Qk,zH,zI,Act.put,zE,zF,zG,zD,zC,zA,zB,zJ]);done)
     case fin =>
      intro vals J9 bs w1 hJ9 hg hS hB;cases hB with
      | cons h1 hB =>
      cases hB;simp only[Bx.st,jEb] at h1;obtain⟨Y,cY,eY,rfl,zY,rfl⟩:=h1;have e10:vals 10=vPt Y:=eY;clear HPA HV5 HV1;have hS:=hS.less hJ9;simp only[List.nil_append,List.cons_append] at hS;have hS:Sat E J (PH.one Y (.cells #[nv (f/2),nv n.v,nv n.lo,nv n.hi,nv 0] 194)::ms) w1:=hS;refine bH ?_;clear hg;simp only[e10];go_wp2_with (first|(refine aL ?_))
      go_ret;exact⟨rfl,m,HAA.out,(Hback.out _ _ hS).perm (List.Perm.swap _ _ _) |>.drop⟩
   rw[jAa hz] at hm;have hz0:¬(n.refs:Int)=0:=by omega
   have Hfit:=yH (show Fits { n with refs:=n.refs-1 } from ⟨hnf.1,hnf.2.1,hnf.2.2.1,show n.refs-1<_ by omega⟩);cases hmo:G.St.less G.fuel { s with pl:=s.pl.put (f/2) { n with refs:=n.refs-1 } } f with
   | none=>rw[hmo] at hm;cases hm
   | some s1 =>
   rw[hmo] at hm;cases hm;have HMo:=yH hmo;clear hmo hn hnf hpl hR;go_enter Tryz.func109,Tryz.ntmps109;go_wp2_with (first|(go_at_call 103;(with_reducible refine bB hS (HI.out _ hS.ile) ?_);clear hS;intro w hS))
   have hS:Sat E J ([]++ms) w:=hS;have HPA:=yH (λ(w':World) (hle:J.le (Qa w'))=>HPat.out w' hle);have HA:=HPA;clear HPat;refine Zf [[],[0],[0,1],[0,1,2],[],[4],[0,1,2,3,4,5],[0,1,2,3,4,5,6],[0,1,2,3,4,5,6,7],[0,1,2,3,4,5,6,7],[],[0,1,2,3,4,5,6,7,8,10],[0,1,2,3,4,5,6,7,8,9,10,11]] _ _ [] _ [⟨10,11,194,#[.int .i64 0,.int .i64 0,.int .i64 0,.int .i64 0,.int .i64 0],λcs _=>cs=(ndW (f/2) (some n)).cells⟩] [λv _=>v=vPt S,λv _=>v=vPt S,λv _=>v=.pointer (some ⟨S,1,none⟩),λv _=>v=vPt P,λv _=>v=nv (f),λv _=>v=nv ((f)/2),λv _=>v=.tuple #[ndW (f/2) (some n),.bool (true)],λv _=>v=.tuple #[ndW (f/2) (some n),.bool (true)],λv _=>v=ndW (f/2) (some n),λv _=>v=.bool (true),λ_ _=>True,λ_ _=>True,λv _=>v=.bool (true)]
    (by kernel_rfl) (by kernel_rfl) (by simp) hS ?_ ?monoC ?okb ?dal ?fill ?plain ?fin
   . exact bL
   case monoC =>
    exact bM
   case okb =>
    intro b' hb';simp only[jBa,jCa,jJb] at hb';subst hb';exact⟨by simp,⟨rfl,rfl,rfl⟩,⟨_,Zw Xb,rfl⟩,⟨rfl,rfl,_,rfl⟩,by simp,Zx Qz⟩
   case dal =>
    exact bN
   case fill =>
    intro b' hb' vals J hJ hg;simp only[jBa,jCa,jJb] at hb';subst hb';simp only[zH,zI,Given,Facts] at hg;refine⟨ndW (f/2) (some n),by simp only[Zc,Qc,Qo,Qi,Qd,zH,zI,zA,zB,zK,jEb,Act.put,zE,zF,zG,Act.eval,zD,zC,zJ,hg],HV5.out,HV1.out,rfl⟩
   case plain =>
    repeat' (first|exact trivial|apply And.intro)
    all_goals first
     | (refine .inl (by rfl))
     | ((refine .inr ?_;intro vals J bs w hg hJ hS;refine bS ?_;intro K HK;(first|(refine bJ ?_)|(go_wp2_with (first|(go_at_call 49;with_reducible refine bC (HN.out _) ?_)|(go_at_call 128;((with_reducible refine bB hS (HA.out _ (PH.le.trans hJ hS.ile)) ?_);clear hS;intro w2 hS)))));( refine HK.out _ _ ⟨rfl,J,PH.le.refl _,hS,?_⟩ );clear HK;simp only[Facts,Qk,zH,zI,Act.put,zE,zF,zG,zD,zC,zA,zB,zJ]);done)
   case fin =>
    intro vals J9 bs w1 hJ9 hg hS hB;cases hB with
    | cons h1 hB =>
    cases hB;simp only[Bx.st,jEb] at h1;obtain⟨Y,cY,eY,rfl,zY,rfl⟩:=h1;have e10:vals 10=vPt Y:=eY;clear HPA HV5 HV1;have hS:=hS.less hJ9;simp only[List.nil_append,List.cons_append] at hS;have hS:Sat E J (PH.one Y (.cells #[nv (f/2),nv n.v,nv n.lo,nv n.hi,nv n.refs] 194)::ms) w1:=hS;refine bH ?_;clear hg;simp only[e10];go_wp2_with (first|(refine aL ?_)|(refine aS ?_;clear hS;intro w hS))
    have hDv:(.int .i64 ((n.refs:Int)-1):Value)=nv (n.refs-1):=by simp only[nv];  (congr 1 <;> omega)
    rw[hDv] at hS;have hS:=Hback.out _ _ hS;have hS:=Sat.unpack Hbd.out hS;simp only[List.cons_append] at hS;obtain⟨I1,l01,lS,hS1,bS⟩:=hS.ice;have hS1:=hS1.perm (jU (l₁:=PH.one L (.cells #[vV,vL] 166)::mV::mL::mP::mT::mC::tms) (l₂:=ms));obtain⟨I2,l12,lY,hS2,bY⟩:=hS1.ice;have iS1:I2.at S 1=some (vPt P):=PH.at_le l12 (PH.at_le lS (Qb rfl));have iY:Cells I2 Y 0 [nv (f/2),nv n.v,nv n.lo,nv n.hi,nv (n.refs-1)]:=(Cells.one Y #[nv (f/2),nv n.v,nv n.lo,nv n.hi,nv (n.refs-1)] 194 (0,0)).le lY;have HbS:=yH bS;have HbY:=yH bY;clear hS hS1 bS bY lS lY l12 l01;refine Qf [[],[0],[0,1],[0,1,2],[],[0,1,2,3,4]] E I2 _
     [λv _=>v=vPt S,λv _=>v=vPt S,λv _=>v=.pointer (some ⟨S,1,none⟩),λv _=>v=vPt P,λv _=>v=ndA (f/2) { n with refs:=n.refs-1 },λ_ _=>True] [5]
     (set1G _ 3 (λm'=>PoolAt P (s.pl.put (f/2) { n with refs:=n.refs-1 }) m')) (by kernel_rfl) (by kernel_rfl) (by decide) hS2 rfl ?last (λ_ _ _ _ _ _ h=>h) (λ_ _ _ _ _ _ h=>h) ?plain ?step ?fin
    case last=>exact bL
    case plain=>(repeat' (first|exact trivial|apply And.intro)) <;> first|exact .inl rfl|(refine .inr ?_;intro s vals J bs w hstop hg hJ hS hG;clear hG;refine bS ?_;intro K HK;(first|(refine bJ ?_)|(go_wp2_with (fail)));exact bO)
    case step =>
     refine⟨trivial,?_⟩;intro vals J bs w hg hJ hS hG;have hG:bs=_:=hG;subst hG;refine bS ?_;intro K HK;go_wp2_with (go_at_call 137;(with_reducible refine yI (pset_any _ _ _ _ _ P s.pl (f/2) { n with refs:=n.refs-1 } n Hnd.out Hfit.out HP.out (hS.pick 3 rfl)) ?_);clear hS;rintro e w ⟨rfl,mP',hP',hS⟩)
     exact HK.out _ _ ⟨rfl,J,_,PH.le.refl _,hS.back 3 rfl,trivial,mP',hP',rfl⟩
    case fin =>
     intro vals J bs w hJ hg hS hG;obtain⟨mP',hP',hns⟩:=hG;subst hns;have hS:=hS.less hJ;have hS:=HbY.out _ _ hS;simp only[List.cons_append,zF,zG] at hS;have hS:=HbS.out _ _ (hS.perm (jU (l₁:=PH.one L (.cells #[vV,vL] 166)::mV::mL::mP'::mT::mC::tms) (l₂:=ms)).symm);obtain⟨m1,hA1,hS1⟩:=Hclose.out _ mP' _ _ hP' hS;have HA1:=yH hA1;refine bH ?_;clear hg hS hA1 hP' hJ;go_wp2_with fail
     refine (sless_any _ _ _ f m1 _ _ HMo.out hf2 HA1.out hS1).mono ?_;clear hS1;rintro e w ⟨rfl,m3,hA3,hS⟩;have HA3:=yH hA3;clear hA3;go_wp2_with fail
     go_ret;exact⟨rfl,m3,HA3.out,(hS.perm (List.Perm.swap _ _ _)).drop⟩
end
section
open Go.RowKit
end
namespace G
theorem Xt:∀(a b:List (Option Nd)) (k:Nat),Qn k (a++b)=Qn k a++Qn (k+a.length) b
 | [],b,k=>rfl
 | none::a,b,k=>by
   rw[List.cons_append];show Qn (k+1) (a++b)=Qn (k+1) a++Qn (k+(a.length+1)) b
   rw[Xt a b,show k+1+a.length=k+(a.length+1) by omega]
 | some n::a,b,k=>by
   rw[List.cons_append];show (k,n)::Qn (k+1) (a++b)=((k,n)::Qn (k+1) a)++Qn (k+(a.length+1)) b
   rw[Xt a b,show k+1+a.length=k+(a.length+1) by omega];rfl
def Pl.upto(p:Pl)(k:Nat):List (Nat×Nd):=Qn 0 (p.slots.take k)
def Pl.all(p:Pl):List (Nat×Nd):=Qn 0 p.slots
def one1(k:Nat):Option Nd->List (Nat×Nd)
 | none=>[]
 | some n=>[(k,n)]
theorem Pl.upto_succ(p:Pl){k:Nat}{x:Option Nd}(h:p.slots[k]?=some x):p.upto (k+1)=p.upto k++one1 k x:=by
 have hk:=(yE.1 h).1;unfold Pl.upto;rw[jR,h,Xt];simp only[Option.toList_some,jSa,jLb,kCa (Nat.le_of_lt hk)];cases x <;> rfl
theorem Pl.upto_all(p:Pl):p.upto p.slots.length=p.all:=by unfold Pl.upto Pl.all;rw[kDa]
theorem Pl.upto_split(p:Pl){k:Nat}{n:Nd}(h:p.slots[k]?=some (some n)):∃suf,p.all=p.upto k++(k,n)::suf:=by
 have hk:=(yE.1 h).1;have hd:p.slots=p.slots.take k++p.slots.drop k:=(kGa k p.slots).symm;have he:p.slots[k]=some n:=by rw[yA hk] at h;injection h
 refine⟨Qn (k+1) (p.slots.drop (k+1)),?_⟩;unfold Pl.all Pl.upto;conv=>lhs;rw[hd]
 rw[Xt,jL hk,he,jSa,kCa (Nat.le_of_lt hk),jLb];rfl
theorem Pl.mem_all{p:Pl}{i:Nat}{n:Nd}:(i,n)∈p.all↔p.slots[i]?=some (some n):=by unfold Pl.all;rw[Ya];simp
end G
section
open Go.ChangeShapes Go.WideShapes Go.ChangeAt Go.RowKit Go.Shelf
attribute [local go_sem] Oper.semAt_some
attribute [local go_sem ↓] wpIn_at_zero wpIn_at_succ
abbrev Kof(I0:PH):Nat->Prop:=λb=>I0 b≠none
theorem Kof.le{I0:PH}{w W:World}(h:Keeps (Kof I0) w W)(hw:I0.le (Qa w)):I0.le (Qa W):=λb o hb=>(h.2 b (show I0 b≠none by rw[hb];simp)).trans (hw b o hb)
theorem Kof.lt{I0:PH}{w:World}(hw:I0.le (Qa w)){b:Nat}(h:Kof I0 b):b<w.heap.size:=by
 cases hb:I0 b with
 | none=>exact absurd hb h
 | some o=>exact (jDa.1 (hw b o hb)).1
theorem ids1_iter(w:World)(I0:PH)(P Bp:Nat)(p:G.Pl)(hI:I0.le (Qa w))(hbox:I0.at Bp 0=some (vPt P))(hR:PoolR I0 P p) :
  Iter Tryz.prog 172 #[.pointer (some ⟨Bp,0,none⟩)] (λk:Nat×G.Nd => #[nv k.1]) (Kof I0) p.all w:=by
 intro l J Jx W hk hJ hJx hY h0;have hst:Stays (Kof I0) (Kof I0) W W:=⟨λ_ h=>h,λ_ h=>.inl h⟩;have h00:=h0 _ W (Below.refl _ _) hst;clear h0;have hY':=hY (Kof I0);clear hY;obtain⟨hfit,A,cA,T,cT,vF,nF,cF,hvF,h1,h2,h3,h4,h5,h6,h7⟩:=hR;have hW:∀W',Keeps (Kof I0) w W'->W'.cell? ⟨Bp,0,none⟩=some (vPt P)/\W'.cell? ⟨P,1,none⟩=some (.slice (some ⟨A,0,none⟩) p.slots.length cA)/\W'.cell? ⟨P,2,none⟩=some (.slice (some ⟨T,0,none⟩) p.slots.length cT)/\∀i x,p.slots[i]?=some x->W'.cell? ⟨T,i,none⟩=some (.bool x.isSome):=λW' hk'=>by
  have hle:=Kof.le hk' hI;exact⟨Ql hle hbox,Ql hle h2,Ql hle h3,λi x hx=>Ql hle (h7 i x hx)⟩
 have hn2:p.slots.length<=1048577:=by have:=hfit.len;have:=hfit.room;omega
 have hup:=p.upto_all;generalize hn:p.slots.length=n at *
 have HW:=yH hW;have HY:=yH hY';have HJ:=yH h00;have Hk:=yH hk;have Hn:=yH hn;have Hst:=yH hst;have Hup:=yH hup;obtain⟨c0,c1,c2,_⟩:=hW W hk;clear hW hY' h00 hk hn hst hbox h1 h2 h3 h4 h5 h6 h7 hI hup hfit;refine callsIn_of_wp Tryz.func172 rfl trivial ?_ rfl;simp only[Tryz.ntmps172,jS,yB,yC,Nat.reduceAdd,Nat.reduceSub,kDb,Array.replicate_zero,kK,kF,List.nil_append,List.cons_append]
 gi_wp2
 gi_loopw [11] (λi wr=>∃k:Nat,k<=n/\i=.int .i64 k/\J (Kof I0) (p.upto k) wr/\Keeps (Kof I0) w wr/\W.heap.size<=wr.heap.size) (λi _=>(n-intOf i).toNat)
 case atStart=>exact⟨0,by omega,rfl,HJ.out,Hk.out,jBb _⟩
 case round =>
  obtain⟨k,hkn,rfl,hj,hkp,hwr⟩:=hrel;clear c0 c1 c2;obtain⟨c0,c1,c2,c3a⟩:=HW.out wr hkp;have Hkp:=yH hkp;have Hj:=yH hj;have Hwr:=yH hwr;clear hkp hj hwr;by_cases hlt:k<n
  . obtain⟨x,hx⟩:∃x,p.slots[k]?=some x:=⟨_,yA (by rw[Hn.out];exact hlt)⟩
    have c3:=c3a k x hx;have hsucc:=p.upto_succ hx;have Hsucc:=yH hsucc;have ki:(k:Int)<(n:Int):=by omega
    have k0:(0:Int)<=(k:Int):=by omega
    have Hx:=yH hx;clear c3a hsucc;cases x with
    | none =>
      have c3:wr.cell? ⟨T,k,none⟩=some (.bool false):=c3
      gi_wp2
      refine⟨λ_ h=>(by cases h),?_⟩
      gi_wp2
      go_roundw
      case rel=>exact⟨k+1,by omega,by go_num,by rw[Hsucc.out];simpa[G.one1] using Hj.out,Hkp.out,Hwr.out⟩
      case measure=>simp[intOf];omega
    | some nd =>
      have c3:wr.cell? ⟨T,k,none⟩=some (.bool true):=c3;obtain⟨suf,hsuf⟩:=p.upto_split Hx.out;obtain⟨fn,tmps,assign,body,hy,hR⟩:=YieldAt.wide 0 (HY.out (p.upto k) (k,nd) suf wr hsuf Hj.out);have Hsuf:=yH hsuf;clear hsuf
      gi_wp2
      refine⟨rfl,?_⟩;refine hR.mono ?_;clear hR hy;rintro e W3 (⟨rfl,hJ3,hk3⟩|⟨rfl,hJx3,_⟩)
      . have Hz:=yH (jFb Hwr.out hk3.1)
        have Hk3:=yH (Hkp.out.trans hk3);have HJ3:=yH hJ3;clear hJ3 hk3
        gi_wp2
        go_roundw
        case rel=>exact⟨k+1,by omega,by go_num,by rw[Hsucc.out];simpa[G.one1] using HJ3.out,Hk3.out,Hz.out⟩
        case measure=>simp[intOf];omega
      . have HJx3:=yH hJx3
        clear hJx3
        gi_wp2
        refine bodyPost_ret (results_none rfl _ _ _) rfl ?_;exact⟨⟨_,rfl⟩,_,⟨λ_ h=>h,λ_ h=>.inl h⟩,.inr ⟨p.upto k++[(k,nd)],⟨suf,by rw[Hsuf.out];simp⟩,HJx3.out⟩⟩
  . have hkn':k=n:=by omega
    subst hkn'
    gi_wp2
    go_end0
    exact⟨⟨_,rfl⟩,_,⟨λ_ h=>h,λ_ h=>.inl h⟩,.inl (by rw[<- Hup.out];exact Hj.out)⟩
end
section
open Go.ChangeShapes Go.WideShapes Go.ChangeAt Go.RowKit
section
variable{F:Fence} {n:Nat} {P:Program} {ops:Array Oper} {md:Region.Mode} {w:World}
theorem Oper.wpIn_of_still(hF:∀f,F.fn f)(hd:F.depth=none){o:Oper}{a:Act}{K:Act->Prop}{K':Act->World->Prop}{Q':Exit->Act->World->Prop}(h:∀a,K a->K' a w)(hh:o.still P a w K)
  (hcall:∀f args w' R,Calls P f args w' R->CallsIn F (n-1) P f args w' R):o.wpIn F n P a w K' Q':=by
 refine⟨λf _=>hF f,?_⟩;unfold Oper.still at hh;have hs:Oper.semAt F.round a.eval o=execOp a.eval o:=by
  unfold Oper.semAt;split
  . rename_i l c hr ho
    exfalso
    simp only[ho,execOp,Sem.run_bind] at hh
    revert hh
    cases (resolve a.eval c o.type).run P w with
    | ok d w'=>simp[Result.andThen,Oper.stillUpon]
    | halt x w'=>simp[Result.andThen,Oper.stillUpon]
  . rfl
 rw[hs];generalize (execOp a.eval o).run P w=r at *
 cases r with
 | ok m w' =>
   cases m <;> simp only[Oper.stillUpon] at hh <;> simp only[Oper.uponIn]
   case enter f args =>
    obtain⟨rfl,v,hc,hn⟩:=hh;exact⟨λh=>(by rw[hd] at h;cases h),hcall _ _ _ _ (hc.mono λe w'' ⟨he,hw⟩=>by subst he;subst hw;exact h _ hn)⟩
   all_goals (obtain⟨rfl,h2⟩:=hh;exact h _ h2)
 | halt x w'=>simp only[Oper.stillUpon] at hh
theorem wpOpIn_of_stOp(hF:∀f,F.fn f)(hd:F.depth=none)(hcall:∀f args w' R,Calls P f args w' R->CallsIn F (n-1) P f args w' R){i:Nat}{a:Act}{K:Act->Prop}{K':Act->World->Prop}{Q':Exit->Act->World->Prop}
  (h:∀a,K a->K' a w)(hh:stOp P ops w i K a):wpOpIn F n P ops Q' i K' a w:=by
 unfold stOp at hh;unfold wpOpIn;split
 . rename_i ho;simp only[ho] at hh;exact h _ hh
 . rename_i o ho
   simp only[ho] at hh;split
   . rename_i hw;simp only[hw,jEb] at hh;exact Oper.wpIn_of_still hF hd h hh hcall
   . rename_i hw;simp only[hw] at hh;exact⟨λf _=>hF f,h _ hh⟩
theorem wpAnyIn_of_head(hF:∀f,F.fn f)(hd:F.depth=none)(hcall:∀f args w' R,Calls P f args w' R->CallsIn F (n-1) P f args w' R){m g:Nat}{L:Array Bool->Act->Prop}{Q':Exit->Act->World->Prop}
  (hL:∀listed a,L listed a->wpAnyIn F n P md ops Q' g listed a w):∀(f:Nat) (listed:Array Bool) (a:Act),wpAnyL P md ops w m L f listed a->wpAnyIn F n P md ops Q' (f+g) listed a w
 | 0,listed,a,h=>by rw[jLb];exact hL _ _ h
 | f+1,listed,a,h=>by
   rw[show f+1+g=(f+g)+1 by omega];exact⟨λh0=>absurd h0 h.1,λi hi=>wpOpIn_of_stOp hF hd hcall (λa' h'=>wpAnyIn_of_head hF hd hcall hL f _ a' h') (h.2 i hi).2⟩
theorem wpAnyIn_of_seq{Q':Exit->Act->World->Prop}:∀(l:List Oper) (k:Nat) (listed:Array Bool) (a:Act) (w:World),(∀j,l[j]?=ops[k+j]?) ->
  Region.seqB md ops l.length k listed=true->wpListIn F n P ops Q' l a w->wpAnyIn F n P md ops Q' l.length listed a w
 | [],_,_,_,_,_,hB,h=>⟨by simpa[Region.seqB] using hB,h⟩
 | o::l,k,listed,a,w,hl,hB,h=>by
   have h0:ops[k]?=some o:=by simpa using (hl 0).symm
   simp only[yB,Region.seqB,jI,jPa] at hB;refine⟨λh1=>(by rw[hB.1] at h1;cases h1),λi hi=>?_⟩;rw[hB.1] at hi;obtain rfl:i=k:=by simpa using hi
   have hw:wpOpIn F n P ops Q' i (wpListIn F n P ops Q' l) a w:=by unfold wpOpIn;simp only[h0];exact h
   exact wpOpIn_mono (λa' w' h'=>wpAnyIn_of_seq l (i+1) _ a' w' (λj=>by have:=hl (j+1);simpa[kYb,Nat.add_comm 1 j] using this) hB.2 h') hw
theorem wpIn_region_tail(hF:∀f,F.fn f)(hd:F.depth=none)(hcall:∀f args w' R,Calls P f args w' R->CallsIn F (n-1) P f args w' R){id:Nat}{Q:Exit->Act->World->Prop}{a:Act}{l:List Oper}(m:Nat)
  (hm:P.follows .mixedOrders=true)(hB:Region.lexTailB .any l.toArray m=true)
  (h:wpStill P l.toArray w.drew (λa'=>wpListIn F n P l.toArray Q (l.drop m) a' w.drew) (l.take m) a):(Code.region id l.toArray true).wpIn F n P Q a w:=by
 simp only[Region.lexTailB,jI,jPa] at hB;obtain⟨⟨⟨⟨hsel,hn⟩,hs⟩,hc⟩,hlex⟩:=hB;have hn':m<l.length:=by simpa using hn
 have htl:(l.take m).length=m:=by simp;omega
 have hdl:(l.drop m).length=l.toArray.size-m:=by simp
 have inv0:HeadInv .any l.toArray m (Array.replicate l.toArray.size false) :=
  ⟨by simp,λj oj _ hl=>(by rw[getD_replicate_false] at hl;cases hl),λt _ ht=>getD_in (by simpa using ht) (getD_replicate_false _ _)⟩
 have H:=wpAnyL_lex (md:=.any) (g:=l.toArray.size-m) hsel hs hc hn (l.take m) 0 _ a (λj hj=>by
  have hj':j<m:=by rw[htl] at hj;exact hj
  simp[hj']) (by simpa using htl) inv0 (by rw[htl];exact hlex) h
 refine wpIn_region_any hm ?_;have H2:=wpAnyIn_of_head (F:=F) (n:=n) (Q':=Q) hF hd hcall (g:=l.toArray.size-m) (λlisted a' hL=>by
  have:=wpAnyIn_of_seq (F:=F) (n:=n) (P:=P) (md:=.any) (ops:=l.toArray) (Q':=Q) (l.drop m) m listed a' w.drew (λj=>by simp) (by rw[hdl];exact hL.1) hL.2;rw[hdl] at this;exact this) _ _ _ H
 rw[htl,show m+(l.toArray.size-m)=l.toArray.size by omega] at H2;exact H2
end
theorem round_tail{n l0:Nat}{P:Program}{w:World}{id:Nat}{Q:Exit->Act->World->Prop}{a:Act}{l:List Oper}(m:Nat)
  (hm:P.follows .mixedOrders=true)(hB:Region.lexTailB .any l.toArray m=true)
  (h:wpStill P l.toArray w.drew (λa'=>wpListIn (Fence.wide.inRound l0) n P l.toArray Q (l.drop m) a' w.drew) (l.take m) a):(Code.region id l.toArray true).wpIn (Fence.wide.inRound l0) n P Q a w :=
 wpIn_region_tail (λ_=>trivial) rfl (λ_ _ _ _ h=>CallsIn.inRound _ (callsIn_wide.2 h)) m hm hB h
theorem wide_tail{n:Nat}{P:Program}{w:World}{id:Nat}{Q:Exit->Act->World->Prop}{a:Act}{l:List Oper}(m:Nat)
  (hm:P.follows .mixedOrders=true)(hB:Region.lexTailB .any l.toArray m=true)
  (h:wpStill P l.toArray w.drew (λa'=>wpListIn Fence.wide n P l.toArray Q (l.drop m) a' w.drew) (l.take m) a):(Code.region id l.toArray true).wpIn Fence.wide n P Q a w :=
 wpIn_region_tail (λ_=>trivial) rfl (λ_ _ _ _ h=>callsIn_wide.2 h) m hm hB h
end
section
open Go.RowKit
section
variable{l n:Nat} {P:Program} {o:Oper} {a:Act} {w E:World} {K:Act->World->Prop} {Q Q':Exit->Act->World->Prop} {I:PH} {ms:List PH} {ops:Array Oper} {rest:List Oper}
theorem inr_op(hg:o.guard=none)(hs:isSelect o.op=false)(h:o.wp P a w (λa' w'=>wpListIn (Fence.wide.inRound l) n P ops Q rest a' w') calm):wpListIn (Fence.wide.inRound l) n P ops Q (o::rest) a w :=
 wpListIn_plain hg λK hK=>by
  have h2:o.wp P a w K calm:=by
   unfold Oper.wp at h ⊢;generalize (execOp a.eval o).run P w=r at h ⊢;cases r with
   | ok m w' =>
     cases m <;> simp only[Oper.upon] at h ⊢ <;> first
      | exact hK _ _ h
      | (refine yI h λe w'' he=>?_
         cases e with
         | returned v=>exact hK _ _ he
         | panicked c=>exact he
         | outgrown=>exact he)
      | (exact Rows.mono h λv w'' he=>hK _ _ he)
   | halt x w'=>cases x <;> simp only[Oper.upon] at h ⊢ <;> exact h
  exact Oper.wpIn_of_wp (λ_=>trivial) rfl (λ_ _ _ _ h=>callsIn_round h) (λ_ _ _ _ h=>rowsIn_round h) hs h2
theorem ratList(h:wpListIn (Fence.wide.inRound l) n P ops Q (o::rest) a w):wpListIn (Fence.wide.inRound l) n P ops Q (o::rest) a w:=h
theorem risLoad{dst:Option Tmp}{type:TypeId}{pos:String}{after:Array Edge}{T:TypeId}{x:Operand}(h:Oper.wp P ⟨dst,.load T x,type,pos,after,none⟩ a w (λa' w'=>wpListIn (Fence.wide.inRound l) n P ops Q rest a' w') calm):wpListIn (Fence.wide.inRound l) n P ops Q (⟨dst,.load T x,type,pos,after,none⟩::rest) a w:=inr_op rfl rfl h
theorem risStore{dst:Option Tmp}{type:TypeId}{pos:String}{after:Array Edge}{T:TypeId}{x y:Operand}(h:Oper.wp P ⟨dst,.store T x y,type,pos,after,none⟩ a w (λa' w'=>wpListIn (Fence.wide.inRound l) n P ops Q rest a' w') calm):wpListIn (Fence.wide.inRound l) n P ops Q (⟨dst,.store T x y,type,pos,after,none⟩::rest) a w:=inr_op rfl rfl h
theorem risAllocD{type:TypeId}{pos:String}{after:Array Edge}{T:TypeId}(d:Nat)(h:Oper.wp P ⟨some d,.alloc T,type,pos,after,none⟩ a w (λa' w'=>wpListIn (Fence.wide.inRound l) n P ops Q rest a' w') calm):wpListIn (Fence.wide.inRound l) n P ops Q (⟨some d,.alloc T,type,pos,after,none⟩::rest) a w:=inr_op rfl rfl h
theorem risBuildSlice{dst:Option Tmp}{type:TypeId}{pos:String}{after:Array Edge}{T:TypeId}{k:Nat}{parts:Array (Nat×Operand)}(h:Oper.wp P ⟨dst,.buildSlice T k parts,type,pos,after,none⟩ a w (λa' w'=>wpListIn (Fence.wide.inRound l) n P ops Q rest a' w') calm):wpListIn (Fence.wide.inRound l) n P ops Q (⟨dst,.buildSlice T k parts,type,pos,after,none⟩::rest) a w:=inr_op rfl rfl h
theorem risAppend{dst:Option Tmp}{type:TypeId}{pos:String}{after:Array Edge}{s x:Operand}{t:TypeId}(h:Oper.wp P ⟨dst,.call { callee:=.builtin .append,args := #[s,x],argTypes := #[t,t] },type,pos,after,none⟩ a w (λa' w'=>wpListIn (Fence.wide.inRound l) n P ops Q rest a' w') calm) :
 wpListIn (Fence.wide.inRound l) n P ops Q (⟨dst,.call { callee:=.builtin .append,args := #[s,x],argTypes := #[t,t] },type,pos,after,none⟩::rest) a w:=inr_op rfl rfl h
theorem wp_k1(k:Nat)(hS:Sat E I ms w){T:TypeId}{x:Operand}(ho:o.op=.load T x)(hT:Ky P T=some false){X off:Nat}{c:Array Value}{T':TypeId}{z:Nat×Nat}{v:Value}
  (hx:a.eval x=.pointer (some ⟨X,off,none⟩))(hm:ms[k]?=some (PH.one X (.cells c T' z)))(hv:c.toList[off]?=some v)(h:K (a.put o.dst v) w):o.wp P a w K Q :=
 wp_ld1 (hS.mle hm) ho hT hx (by simp only[PH.at,PH.one_self];rw[<- hv];simp) h
theorem wp_kN(k:Nat)(hS:Sat E I ms w){T:TypeId}{x:Operand}(ho:o.op=.load T x)(hT:Ky P T=some true){X:Nat}{c:Array Value}{T':TypeId}{z:Nat×Nat}
  (hx:a.eval x=.pointer (some ⟨X,0,none⟩))(hm:ms[k]?=some (PH.one X (.cells c T' z)))(hs:Kg P T=some c.size)(h:K (a.put o.dst (.agg c)) w):o.wp P a w K Q :=
 wp_ldN (hS.mle hm) ho hT hx (Cells.one X c T' z) (by rw[hs];simp) h
theorem wp_i1(hS:Sat E I ms w){T:TypeId}{x:Operand}(ho:o.op=.load T x)(hT:Ky P T=some false){X off:Nat}{v:Value}
  (hx:a.eval x=.pointer (some ⟨X,off,none⟩))(hc:I.at X off=some v)(h:K (a.put o.dst v) w):o.wp P a w K Q :=
 wp_ld1 hS.ile ho hT hx hc h
end
end
section
open Go.ChangeShapes Go.WideShapes Go.ChangeAt Go.RowKit Go.Shelf
attribute [local go_sem] Oper.semAt_some
attribute [local go_sem ↓] wpIn_at_zero wpIn_at_succ
theorem pids_any(p:Option Addr)(w:World) :
  Calls Tryz.prog 165 #[.pointer p] w λe w'=>e=.returned (.func (.func 172) #[] #[.pointer (some ⟨w.heap.size,0,none⟩)])/\w'=w.alloc (.cells #[.pointer p] 161):=by
 go_enter Tryz.func165,Tryz.ntmps165;go_wp2
 go_ret;exact⟨rfl,rfl⟩
theorem peach_any(p:Option Addr)(w:World) :
  Calls Tryz.prog 154 #[.pointer p] w λe w'=>e=.returned (.func (.func 164) #[] #[.pointer (some ⟨w.heap.size,0,none⟩)])/\w'=w.alloc (.cells #[.pointer p] 161):=by
 go_enter Tryz.func154,Tryz.ntmps154;go_wp2
 go_ret;exact⟨rfl,rfl⟩
def encNd(x:Nat×G.Nd):Array Value := #[ndA x.1 x.2]
theorem peach1_iter(w:World)(I0:PH)(P Bp:Nat)(p:G.Pl)(hI:I0.le (Qa w))(hbox:I0.at Bp 0=some (vPt P))(hR:PoolR I0 P p) :
  Iter Tryz.prog 164 #[.pointer (some ⟨Bp,0,none⟩)] encNd (Kof I0) p.all w:=by
 intro l J Jx W hk hJ hJx hY h0;have hIW:=Kof.le hk hI;have c0:=Ql hIW hbox;have hBl:Bp<W.heap.size:=Kof.lt hIW (λh=>by unfold PH.at at hbox;rw[h] at hbox;cases hbox);refine callsIn_of_wp_marks Tryz.func164 rfl trivial ?_ rfl;simp only[Tryz.ntmps164,jS,yB,yC,Nat.reduceAdd,Nat.reduceSub,kDb,Array.replicate_zero,kK,kF,List.nil_append,List.cons_append]
 gi_wp2_with (refine wide_call (pids_any _ _) ?_;rintro e w' ⟨rfl,rfl⟩)
 have hb1:Below W.heap.size W (W.alloc (Obj.cells #[Value.func (Fn.yield l) #[] #[]] 242)):=(Below.refl _ _).alloc (jBb _) _;have hby:=Blk.new W 242 #[Value.func (Fn.yield l) #[] #[]];generalize hy1:W.alloc (Obj.cells #[Value.func (Fn.yield l) #[] #[]] 242)=W1 at *
 have hb2:Below W1.heap.size W1 (W1.alloc (Obj.cells #[vPt P] 161)):=(Below.refl _ _).alloc (jBb _) _;have hbq:=Blk.new W1 161 #[vPt P];have hby2:=hby.alloc (Obj.cells #[vPt P] 161);generalize hy2:W1.alloc (Obj.cells #[vPt P] 161)=W2 at *
 have z1:W1.heap.size=W.heap.size+1:=by rw[<- hy1];simp
 have z2:W2.heap.size=W.heap.size+2:=by rw[<- hy2];simp[z1]
 have hbW:Below W.heap.size W W2:=hb1.trans (hb2.mono (by omega));have hKW:∀b,Kof I0 b->b<W.heap.size:=λb hb=>Kof.lt hIW hb
 have hI2:I0.le (Qa W2):=λb o hb=>(hbW.block b (hKW b (by unfold Kof;rw[hb];simp))).trans (hIW b o hb)
 rw[z1] at hbq;clear hb1 hb2 hy1 hy2 z1 hby c0;have hKlt:∀b,(b=W.heap.size+1\/b=W.heap.size\/Kof I0 b)->b<W2.heap.size:=by
  rintro b (rfl|rfl|hb)
  . omega
  . omega
  . have:=hKW b hb;omega
 have hoff:I0.off (PH.one (W.heap.size+1) (.cells #[vPt P] 161)):=λb=>by
  by_cases hb:b=W.heap.size+1
  . refine .inl ?_
    cases h:I0 b with
    | none=>rfl
    | some o=>have:=hKW b (by unfold Kof;rw[h];simp);omega
  . refine .inr ?_
    unfold PH.one;rw[jAa hb]
 have hI3:(I0.join (PH.one (W.heap.size+1) (.cells #[vPt P] 161))).le (Qa W2):=λb o hb=>by
  by_cases h1:Kof I0 b
  . cases h:I0 b with
    | none=>exact absurd h h1
    | some o' =>
      have:=PH.le_join I0 (PH.one (W.heap.size+1) (.cells #[vPt P] 161)) b o' h;rw[hb] at this;cases this;exact hI2 b o h
  . have h0:I0 b=none:=Classical.not_not.1 h1
    by_cases hb':b=W.heap.size+1
    . subst hb'
      have:=PH.le_join_right hoff (W.heap.size+1) _ (PH.one_self _ _);rw[hb] at this;cases this;exact hbq
    . unfold PH.join PH.one at hb
      rw[h0] at hb;simp[hb'] at hb
 have hKof3:∀b,Kof (I0.join (PH.one (W.heap.size+1) (.cells #[vPt P] 161))) b->b=W.heap.size+1\/b=W.heap.size\/Kof I0 b:=λb hb=>by
  by_cases h1:Kof I0 b
  . exact .inr (.inr h1)
  . have h0:I0 b=none:=Classical.not_not.1 h1
    by_cases hb':b=W.heap.size+1
    . exact .inl hb'
    . exact absurd (by unfold PH.join PH.one;rw[h0];simp[hb']) hb
 have hids:=ids1_iter W2 (I0.join (PH.one (W.heap.size+1) (.cells #[vPt P] 161))) P (W.heap.size+1) p hI3 (PH.at_le (PH.le_join_right hoff) (Qb rfl)) (hR.le (PH.le_join _ _));have hkeepW:∀W',Keeps (λb=>b=W.heap.size+1\/b=W.heap.size\/Kof I0 b) W2 W'->I0.le (Qa W')/\Blk W' W.heap.size 242 #[Value.func (Fn.yield l) #[] #[]]:=λW' hk' =>
  ⟨Kof.le (hk'.sub λb hb=>.inr (.inr hb)) hI2,(hk'.2 _ (.inr (.inl rfl))).trans hby2⟩
 have hstays:∀S W3,Stays (λb=>b=W.heap.size+1\/b=W.heap.size\/Kof I0 b) S W2 W3->W2.heap.size<=W3.heap.size->Stays (Kof I0) S W W3:=λS W3 h1 h2 =>
  stays_in h1 (by omega) (λb hb=>.inr (.inr hb)) (λb hb=>by
   rcases hb with rfl|rfl|h
   . exact .inr (by omega)
   . exact .inr (by omega)
   . exact .inl h) hKlt h2
 clear hI3 hoff;refine rangeFunc_law (K:=λb=>b=W.heap.size+1\/b=W.heap.size\/Kof I0 b) (gf:=172) (lb := #[.pointer (some ⟨W.heap.size+1,0,none⟩)]) (w0:=W2) rfl (enters_of Tryz.func172 (by kernel_rfl) rfl)
  (hids.mono hKof3 (Keeps.refl _ _)) (Keeps.refl _ _) hKlt ?hps
  (λS pre W'=>J S pre W'/\Keeps (λb=>b=W.heap.size+1\/b=W.heap.size\/Kof I0 b) W2 W')
  (λS c pre W'=>c=.ret/\Jx S pre W') ?hI ?hIx ?start (λk a' _=>a'=⟨#[Value.func (Fn.yield l) #[] #[],Value.pointer (some { block:=Bp,off:=0 }),
    Value.pointer (some { block:=W.heap.size,off:=0 }),nv k.1,vPt P,
    Value.func (Fn.func 172) #[] #[Value.pointer (some { block:=W.heap.size+1,off:=0 })],nv k.1,undef,
    undef,undef,undef,undef,undef,undef,undef,undef,undef],[]⟩) ?hAx ?assign ?body ?done ?stop
 case hps=>exact λ_=>rfl
 case hI =>
  intro S;exact OwnFrom.and (λpre A B row hs hg hr=>hJ S _ A B row hs hg (λr e=>⟨by have:=(hr r e).1;omega,(hr r e).2⟩)) (ownFrom_keeps λb hb=>⟨hKlt b hb,hKlt b hb⟩)
 case hIx =>
  intro S c pre A B row hs hg hr;exact⟨hs.1,hJx S _ A B row hs.2 hg (λr e=>⟨by have:=(hr r e).1;omega,(hr r e).2⟩)⟩
 case start =>
  intro S W' hb hst;exact⟨h0 S W' (hbW.trans (hb.mono (by omega))) ⟨λb hb'=>hst.1 b (.inr (.inr hb')),λb hb'=>by
   have:=hb.size;rcases hst.2 b hb' with (rfl|rfl|h)|h
   . exact .inr ⟨by omega,by omega⟩
   . exact .inr ⟨by omega,by omega⟩
   . exact .inl h
   . exact .inr ⟨by omega,h.2⟩⟩,Keeps.of_below hb hKlt⟩
 case hAx=>exact λx a' s X Y row hs _ _=>hs
 case assign =>
  intro l' S pre x suf W' K' hxs hSl hKS hi hK;have HK:=λa'=>hK a' W' (Keeps.refl _ _) hi
  clear hK
  gi_wp2
  exact rfl
 case body =>
  rintro l' S pre x suf a' W' hxs hSl hKS ⟨hj,hkp⟩ rfl;obtain⟨q1,q2⟩:=hkeepW W' hkp;have hjd:J S pre W'.drew:=hJ S _ W' _ none hj ⟨rfl,rfl,rfl,jBb _,λ_ _ _=>rfl⟩ (λr e=>by cases e);obtain⟨fn,tmps,assign,body,hy,hRd⟩:=YieldAt.wide 0 (hY S pre x suf W'.drew hxs hjd);obtain⟨k,nd⟩:=x;have hmem:(k,nd)∈p.all:=by rw[hxs];simp
  have hslot:=G.Pl.mem_all.1 hmem;have hkl:=(yE.1 hslot).1;obtain⟨hfit,A,cA,T,cT,vF,nF,cF,hvF,h1,h2,h3,h4,h5,h6,h7⟩:=id hR;have hcl:=h6 k _ hslot;have c1:=Ql q1 h2;have d0:=Ql q1 (hcl.at 0 rfl);have d1:=Ql q1 (hcl.at 1 rfl);have d2:=Ql q1 (hcl.at 2 rfl);have d3:=Ql q1 (hcl.at 3 rfl);have d4:=Ql q1 (hcl.at 4 rfl);have c0:=Ql q1 hbox;have cy:=q2.cell 0;have ki:(k:Int)<(p.slots.length:Int):=by omega
  have k0:(0:Int)<=(k:Int):=by omega
  have hn2:(p.slots.length:Int)<=1048577:=by have:=hfit.len;have:=hfit.room;omega
  have Hkp:=yH hkp;have HR:=yH (hRd.mono (R':=λe w3=>∃b:Bool,e=.returned (.bool b)/\Hid ((if b=true then J S (pre++[(k,nd)]) w3 else Jx S (pre++[(k,nd)]) w3)/\Keeps S W'.drew w3)) (by
   rintro e w3 (⟨rfl,h1⟩|⟨rfl,h1⟩)
   . exact⟨true,rfl,by rw[jAb rfl];exact h1⟩
   . exact⟨false,rfl,by rw[jAa (by simp)];exact h1⟩))
  generalize p.slots.length=n at *
  dsimp only[encNd,ndA,ndC] at hy
  simp only[Nat.add_zero] at d0;have hmx:Tryz.prog.follows .mixedOrders=true:=by kernel_rfl
  clear hjd hRd q1 q2 hkp hxs hj hkeepW hbW hby2 hbq hY h0 hk hR hids h1 h2 h3 h4 h5 h6 h7 hcl hslot hmem hfit
  gi_wp2
  refine round_tail 8 (by kernel_rfl) (by kernel_rfl) ?_;simp only[List.take_succ_cons,List.take_zero,kOa,qDa]
  repeat still_step
  refine wpStill_nil ?_;clear d0 d1 d2 d3 d4 c0 cy c1
  gi_wp2
  refine⟨rfl,?_⟩;refine HR.out.mono ?_;clear HR hy;rintro e w3 ⟨b,rfl,HJ3⟩;cases b
  . have HJ4:=HJ3.out
    rw[jAa (by simp)] at HJ4;have HJ5:=yH HJ4;clear HJ4 HJ3
    gi_wp2
    exact⟨⟨HJ5.out.2.1,HJ5.out.2.2⟩,rfl,HJ5.out.1⟩
  . have HJ4:=HJ3.out
    rw[jAb rfl] at HJ4;have HJ5:=yH HJ4;clear HJ4 HJ3
    gi_wp2
    exact⟨⟨HJ5.out.2.1,HJ5.out.2.2⟩,HJ5.out.1,Hkp.out.trans (Keeps.sub ⟨HJ5.out.2.1,HJ5.out.2.2⟩ hKS)⟩
 case done =>
  rintro D S W3 hD hSS ⟨hj,hkp⟩ hd
  gi_wp2
  refine⟨by simp,.inl ⟨_,_,rfl,run_takeDeferred hd,?_⟩⟩;refine⟨_,results_none rfl _ _ _,⟨_,rfl⟩,S,?_,.inl ?_⟩
  . exact hstays S _ (hSS.putObj _ _) (by rw[World.putObj_size];have:=(jDa.1 hd).1;omega)
  . exact (hJ S).putObj _ hj (by omega) hd rfl
 case stop =>
  rintro D S c pre W3 hD hSS hpre ⟨rfl,hj⟩ hd
  gi_wp2
  refine⟨by simp,.inl ⟨_,_,rfl,run_takeDeferred hd,?_⟩⟩;refine⟨_,results_none rfl _ _ _,⟨_,rfl⟩,S,?_,.inr ⟨pre,hpre,(hJx S).putObj _ hj (by omega) hd rfl⟩⟩
  . exact hstays S _ (hSS.putObj _ _) (by rw[World.putObj_size];have:=(jDa.1 hd).1;omega)
end
end Go.Proofs.YtidamcdklgfogaaGreat
