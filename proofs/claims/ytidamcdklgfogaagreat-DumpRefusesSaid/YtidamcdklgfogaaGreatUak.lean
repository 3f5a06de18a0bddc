import Derived.Test.YtidamcdklgfogaaGreatUaj
import Derived.BigQuiet
set_option linter.unusedVariables false
set_option linter.unusedSimpArgs false
set_option maxRecDepth 100000
set_option maxHeartbeats 4000000
namespace Go.Proofs.YtidamcdklgfogaaGreat
section
open Go.RowKit
theorem sis_any{w:World}{S:Nat}{s:G.St}(h:StR (Qa w) S s)(f:Int)(hf:f<9223372036854775808):Calls Tryz.prog 103 #[vPt S,.int .i64 f] w λe w'=>e=.returned (.bool (s.is f))/\Below w.heap.size w w':=by
 by_cases h0:f<0
 . have:s.is f=false:=by unfold G.St.is;rw[jVa (by omega)];rfl
   rw[this];refine (sis_neg f h0).mono ?_;rintro e w' ⟨rfl,rfl⟩;exact⟨rfl,Below.refl _ w⟩
 . obtain⟨n,rfl⟩:∃n:Nat,f=(n:Int):=⟨f.toNat,by omega⟩
   exact sis_nat h n (by omega)
theorem is_lt{s:G.St}(hp:PlFit s.pl){f:Nat}(h:s.is (f:Int)=true):f<4194304:=by
 have h1:=hp.len;have h2:=hp.room;unfold G.St.is at h;simp only[Int.toNat_natCast,jI,kFa,jRb] at h;rcases h.2 with h|h
 . omega
 . have:=G.Pl.nd_lt (p:=s.pl) h
   omega
def TabLt(s:G.St):Prop:=∀v,∀e∈s.tab v,e.id<4194304
theorem find_mem{t:List G.Ent}{lo hi id:Nat}(h:G.findT t lo hi=some id):∃e∈t,e.id=id:=by
 unfold G.findT at h;cases hf:t.find? (λe=>e.lo==lo&&e.hi==hi) with
 | none=>rw[hf] at h;cases h
 | some e=>rw[hf] at h;injection h with h;exact⟨e,kTa hf,h⟩
theorem norm_eq(lo hi:Nat):G.norm lo hi=(G.flipIf lo (hi%2==1),G.flipIf hi (hi%2==1),(hi%2==1)):=by
 unfold G.norm G.flipIf;rcases jKa hi with h|h <;> simp[h]
theorem smk_any{E w:World}{I m:PH}{ms:List PH}{S:Nat}{s s':G.St}{v lo hi:Int}{r er:Nat}(hm:s.mkE v lo hi=some (s',r,er))(hlo:lo<9223372036854775808)(hhi:hi<9223372036854775808)(hT:TabLt s)(hA:StAt S s m)(hS:Sat E I (m::ms) w) :
  Calls Tryz.prog 105 #[vPt S,.int .i64 v,.int .i64 lo,.int .i64 hi] w λe w'=>e=.returned (.tuple #[nv r,nv er])/\∃m',StAt S s' m'/\Sat E I (m'::ms) w':=by
 have hp:PlFit s.pl:=by obtain⟨_,_,P,_,_,_,_,_,_,_,mP,_,_,_,_,_,_,hP,_⟩:=hA;exact hP.1
 obtain⟨J,lJ,mJ,hS,back⟩:=hS.ice;have hR:=hA.read.le mJ;have Hback:=yH back;have HA:=yH hA;have HL:=yH (λ(w':World) (hle:J.le (Qa w'))=>slevel_any (hR.le hle) v);have HI1:=yH (λ(w':World) (hle:J.le (Qa w'))=>sis_any (hR.le hle) lo hlo);have HI2:=yH (λ(w':World) (hle:J.le (Qa w'))=>sis_any (hR.le hle) hi hhi);have HR:=yH hR;clear back hA hR mJ lJ;unfold G.St.mkE at hm;by_cases c1:s.level v<0
 . rw[jAb c1] at hm
   cases hm;clear HI1 HI2 HR hp;go_enter Tryz.func105,Tryz.ntmps105;go_wp2_with ( (go_at_call 71;with_reducible refine bC (HL.out _ hS.ile) ?_) )
   go_ret2;exact⟨rfl,m,HA.out,Hback.out _ _ hS⟩
 rw[jAa c1] at hm;cases b1:s.is lo with
 | false =>
   rw[b1] at hm HI1;cases hm;clear HI2 HR hp;go_enter Tryz.func105,Tryz.ntmps105;go_wp2_with (first|(go_at_call 71;with_reducible refine bC (HL.out _ hS.ile) ?_)|(go_at_call 103;  ((with_reducible refine bB hS (HI1.out _ hS.ile) ?_);clear hS;intro w hS) ) )
   go_ret2;exact⟨rfl,m,HA.out,Hback.out _ _ hS⟩
 | true =>
 cases b2:s.is hi with
 | false =>
   rw[b1,b2] at hm;rw[b1] at HI1;rw[b2] at HI2;cases hm;clear HR hp;go_enter Tryz.func105,Tryz.ntmps105;go_wp2_with (first|(go_at_call 71;with_reducible refine bC (HL.out _ hS.ile) ?_)|(go_at_call 103;first|((with_reducible refine bB hS (HI1.out _ hS.ile) ?_);clear hS;intro w hS)|((with_reducible refine bB hS (HI2.out _ hS.ile) ?_);clear hS;intro w hS))|(refine aG ?_))
   go_ret2;exact⟨rfl,m,HA.out,Hback.out _ _ hS⟩
 | true =>
 rw[b1,b2] at hm;simp only[Bool.and_self,kC,jFa,jOb] at hm;obtain⟨a,rfl⟩:∃a:Nat,lo=(a:Int):=⟨lo.toNat,by have:0<=lo:=by { unfold G.St.is at b1;simp only[jI,jPa] at b1;exact b1.1 };omega⟩;obtain⟨b,rfl⟩:∃b:Nat,hi=(b:Int):=⟨hi.toNat,by have:0<=hi:=by { unfold G.St.is at b2;simp only[jI,jPa] at b2;exact b2.1 };omega⟩;have hA1:=is_lt hp b1;have hB1:=is_lt hp b2;have hA2:a<4611686018427387904:=by omega
 have hB2:b<4611686018427387904:=by omega
 clear hlo hhi;rw[b1] at HI1;rw[b2] at HI2;simp only[Int.toNat_natCast] at hm;have HU1:=yH (λ(w':World) (hle:J.le (Qa w'))=>sunder_any (HR.out.le hle) a (s.level v) (by omega));have HU2:=yH (λ(w':World) (hle:J.le (Qa w'))=>sunder_any (HR.out.le hle) b (s.level v) (by omega));cases u1:s.under a (s.level v) with
 | false =>
   rw[u1] at hm HU1;cases hm;clear HU2 HR hp;go_enter Tryz.func105,Tryz.ntmps105;go_wp2_with (first|(go_at_call 71;with_reducible refine bC (HL.out _ hS.ile) ?_)|(go_at_call 103;first|((with_reducible refine bB hS (HI1.out _ hS.ile) ?_);clear hS;intro w hS)|((with_reducible refine bB hS (HI2.out _ hS.ile) ?_);clear hS;intro w hS))|(go_at_call 132;  ((with_reducible refine bB hS (HU1.out _ hS.ile) ?_);clear hS;intro w hS) )|(refine aG ?_))
   go_ret2;exact⟨rfl,m,HA.out,Hback.out _ _ hS⟩
 | true =>
 cases u2:s.under b (s.level v) with
 | false =>
   rw[u1,u2] at hm;rw[u1] at HU1;rw[u2] at HU2;cases hm;clear HR hp;go_enter Tryz.func105,Tryz.ntmps105;go_wp2_with (first|(go_at_call 71;with_reducible refine bC (HL.out _ hS.ile) ?_)|(go_at_call 103;first|((with_reducible refine bB hS (HI1.out _ hS.ile) ?_);clear hS;intro w hS)|((with_reducible refine bB hS (HI2.out _ hS.ile) ?_);clear hS;intro w hS))|(go_at_call 132;first|((with_reducible refine bB hS (HU1.out _ hS.ile) ?_);clear hS;intro w hS)|((with_reducible refine bB hS (HU2.out _ hS.ile) ?_);clear hS;intro w hS))|(refine aG ?_))
   go_ret2;exact⟨rfl,m,HA.out,Hback.out _ _ hS⟩
 | true =>
 rw[u1,u2] at hm;rw[u1] at HU1;rw[u2] at HU2;simp only[Bool.and_self,kC,jFa,jOb] at hm;by_cases hab:(a:Int)=(b:Int)
 . rw[jAb hab] at hm
   obtain rfl:a=b:=by omega
   cases hm;clear HR hp hab;go_enter Tryz.func105,Tryz.ntmps105;go_wp2_with (first|(go_at_call 71;with_reducible refine bC (HL.out _ hS.ile) ?_)|(go_at_call 103;  ((with_reducible refine bB hS (HI1.out _ hS.ile) ?_);clear hS;intro w hS) )|(go_at_call 132;  ((with_reducible refine bB hS (HU1.out _ hS.ile) ?_);clear hS;intro w hS) )|(refine aG ?_))
   go_ret2;exact⟨rfl,m,HA.out,Hback.out _ _ hS⟩
 rw[jAa hab,norm_eq] at hm;simp only[] at hm;have hv0:0<=v/\v<s.lev.length:=by
  refine Classical.byContradiction λhc=>c1 ?_
  unfold G.St.level;rw[jAa hc];decide
 obtain⟨x,rfl⟩:∃x:Nat,v=(x:Int):=⟨v.toNat,by omega⟩;rw[Int.toNat_natCast] at hm;by_cases hx:x<s.tabs.length
 case neg=>rw[jAa hx] at hm;cases hm
 rw[jAb hx] at hm;obtain⟨h0,L,P,vV,vL,vT,vC,gs,h1,h2,i3,h4,h5,h6,h7,h8,h9,hP,h11,hgs,h13,h14⟩:=HR.out;obtain⟨T,cT,rfl,hgt⟩:=h13 (by omega);have hg:=yA (l:=gs) (i:=x) (by omega);have htt:=yA (l:=s.tabs) (i:=x) hx;have htb:s.tabs[x]=s.tab x:=by unfold G.St.tab;rw[yD,htt];rfl
 have iT:=hgt x _ hg;have hTab:=h14 x _ _ hg htt;rw[htb] at hTab;generalize gs[x]=g at *
 have hxi:(x:Int)<(s.tabs.length:Int):=by omega
 have hx64:s.tabs.length<=64:=h0.tabs;generalize hl:G.flipIf a (b%2==1)=l at *
 generalize hh:G.flipIf b (b%2==1)=h at *
 have hA3:l<4611686018427387904:=by rw[<- hl];exact Kh hA2 _
 have hB3:h<4611686018427387904:=by rw[<- hh];exact Kh hB2 _
 have hno:=λw'=>enorm_any w' a b hA2 hB2
 rw[hl,hh] at hno;have HNo:=yH hno;have hF:=λ(w':World) (hle:J.le (Qa w'))=>tfind_any (hTab.le hle) l h
 clear h1 h2 h4 h5 h6 h7 h8 h9 hP h11 hgs h13 h14 hno HR hg htt hgt;cases hf:G.findT (s.tab x) l h with
 | some id =>
   rw[hf] at hm hF;cases hm;have hidl:id<4194304:=by obtain⟨e,he,hi⟩:=find_mem hf;rw[<- hi];exact hT _ e he
   have HF:=yH hF;clear hF hTab hp hT hf;go_enter Tryz.func105,Tryz.ntmps105;go_wp2_with (first|(go_at_call 71;with_reducible refine bC (HL.out _ hS.ile) ?_)|(go_at_call 103;first|((with_reducible refine bB hS (HI1.out _ hS.ile) ?_);clear hS;intro w hS)|((with_reducible refine bB hS (HI2.out _ hS.ile) ?_);clear hS;intro w hS))|(go_at_call 132;first|((with_reducible refine bB hS (HU1.out _ hS.ile) ?_);clear hS;intro w hS)|((with_reducible refine bB hS (HU2.out _ hS.ile) ?_);clear hS;intro w hS))|(go_at_call 133;with_reducible refine bC (HNo.out _) ?_)|(go_at_call 134;with_reducible refine bC (HF.out _ hS.ile) ?_)|(go_at_call 54;with_reducible refine bC (eof_any _ _ _ hidl) ?_)|(refine aG ?_)|(refine aL ?_))
   go_ret2;exact⟨rfl,m,HA.out,Hback.out _ _ hS⟩
 | none =>
   rw[hf] at hm hF;have HF:=yH hF;clear hF hTab hp hT hf;simp only[] at hm;cases had:s.add x l h with
   | none=>rw[had] at hm;cases hm
   | some o =>
     cases o with
     | none =>
       rw[had] at hm;cases hm;have HAd:=yH had;clear had;go_enter Tryz.func105,Tryz.ntmps105;go_wp2_with (first|(go_at_call 71;with_reducible refine bC (HL.out _ hS.ile) ?_)|(go_at_call 103;first|((with_reducible refine bB hS (HI1.out _ hS.ile) ?_);clear hS;intro w hS)|((with_reducible refine bB hS (HI2.out _ hS.ile) ?_);clear hS;intro w hS))|(go_at_call 132;first|((with_reducible refine bB hS (HU1.out _ hS.ile) ?_);clear hS;intro w hS)|((with_reducible refine bB hS (HU2.out _ hS.ile) ?_);clear hS;intro w hS))|(go_at_call 133;with_reducible refine bC (HNo.out _) ?_)|(go_at_call 134;with_reducible refine bC (HF.out _ hS.ile) ?_)|(go_at_call 135;(with_reducible refine yI (sadd_none HAd.out HA.out (Hback.out _ _ hS)) ?_);clear hS;rintro e w ⟨rfl,hfin⟩;have Hfin:=yH hfin;clear hfin)|(refine aG ?_)|(refine aL ?_))
       go_ret2;exact⟨rfl,Hfin.out⟩
     | some q =>
       obtain⟨s1,id⟩:=q;rw[had] at hm;cases hm;have HAd:=yH had;have hidl:id<4194304:=by
        unfold G.St.add at had;split at had
        . cases had
        . cases had
        . split at had
          . rename_i hc
            injection had with had;injection had with had;injection had with _ h2
            subst h2;exact hc.2.1
          . cases had
       clear had;go_enter Tryz.func105,Tryz.ntmps105;go_wp2_with (first|(go_at_call 71;with_reducible refine bC (HL.out _ hS.ile) ?_)|(go_at_call 103;first|((with_reducible refine bB hS (HI1.out _ hS.ile) ?_);clear hS;intro w hS)|((with_reducible refine bB hS (HI2.out _ hS.ile) ?_);clear hS;intro w hS))|(go_at_call 132;first|((with_reducible refine bB hS (HU1.out _ hS.ile) ?_);clear hS;intro w hS)|((with_reducible refine bB hS (HU2.out _ hS.ile) ?_);clear hS;intro w hS))|(go_at_call 133;with_reducible refine bC (HNo.out _) ?_)|(go_at_call 134;with_reducible refine bC (HF.out _ hS.ile) ?_)|(go_at_call 135;(with_reducible refine yI (sadd_some HAd.out hA3 hB3 HA.out (Hback.out _ _ hS)) ?_);clear hS;rintro e w ⟨rfl,hfin⟩;have Hfin:=yH hfin;clear hfin)|(go_at_call 54;with_reducible refine bC (eof_any _ _ _ hidl) ?_)|(refine aG ?_)|(refine aL ?_))
       go_ret2;exact⟨rfl,Hfin.out⟩
end
section
open Go.RowKit
theorem add_lt{s s1:G.St}{x l h id:Nat}(had:s.add x l h=some (some (s1,id))):id<4194304:=by
 unfold G.St.add at had;split at had
 . cases had
 . cases had
 . split at had
   . rename_i hc
     injection had with had;injection had with had;injection had with _ h2
     subst h2;exact hc.2.1
   . cases had
theorem sbelow_any{E w:World}{I m:PH}{ms:List PH}{S:Nat}{s s':G.St}{x a b r:Nat}(hm:s.below x a b=some (s',r))(hx:x<s.tabs.length)(hA2:a<4611686018427387904)(hB2:b<4611686018427387904)(hT:TabLt s)(hA:StAt S s m)(hS:Sat E I (m::ms) w) :
  Calls Tryz.prog 146 #[vPt S,nv x,nv a,nv b] w λe w'=>e=.returned (nv r)/\∃m',StAt S s' m'/\Sat E I (m'::ms) w':=by
 obtain⟨J,lJ,mJ,hS,back⟩:=hS.ice;have hR:=hA.read.le mJ;have Hback:=yH back;have HA:=yH hA;clear back hA mJ lJ;unfold G.St.below at hm;by_cases hab:a=b
 . rw[jAb hab] at hm
   subst hab;cases hm;clear hR hT;go_enter Tryz.func146,Tryz.ntmps146;go_wp2_with (fail)
   go_ret;exact⟨rfl,m,HA.out,Hback.out _ _ hS⟩
 rw[jAa hab,norm_eq] at hm;simp only[] at hm;have hab':¬(a:Int)=(b:Int):=by omega
 obtain⟨h0,L,P,vV,vL,vT,vC,gs,h1,h2,i3,h4,h5,h6,h7,h8,h9,hP,h11,hgs,h13,h14⟩:=hR;obtain⟨T,cT,rfl,hgt⟩:=h13 (by omega);have hg:=yA (l:=gs) (i:=x) (by omega);have htt:=yA (l:=s.tabs) (i:=x) hx;have htb:s.tabs[x]=s.tab x:=by unfold G.St.tab;rw[yD,htt];rfl
 have iT:=hgt x _ hg;have hTab:=h14 x _ _ hg htt;rw[htb] at hTab;generalize gs[x]=g at *
 have hxi:(x:Int)<(s.tabs.length:Int):=by omega
 have hx64:s.tabs.length<=64:=h0.tabs;generalize hl:G.flipIf a (b%2==1)=l at *
 generalize hh:G.flipIf b (b%2==1)=h at *
 have hA3:l<4611686018427387904:=by rw[<- hl];exact Kh hA2 _
 have hB3:h<4611686018427387904:=by rw[<- hh];exact Kh hB2 _
 have hno:=λw'=>enorm_any w' a b hA2 hB2
 rw[hl,hh] at hno;have HNo:=yH hno;have hF:=λ(w':World) (hle:J.le (Qa w'))=>tfind_any (hTab.le hle) l h
 clear h1 h2 h4 h5 h6 h7 h8 h9 hP h11 hgs h13 h14 hno hg htt hgt h0;cases hf:G.findT (s.tab x) l h with
 | some id =>
   rw[hf] at hm hF;cases hm;have hidl:id<4194304:=by obtain⟨e,he,hi⟩:=find_mem hf;rw[<- hi];exact hT _ e he
   have HF:=yH hF;clear hF hTab hT hf;go_enter Tryz.func146,Tryz.ntmps146;go_wp2_with (first|(go_at_call 133;with_reducible refine bC (HNo.out _) ?_)|(go_at_call 134;with_reducible refine bC (HF.out _ hS.ile) ?_)|(go_at_call 54;with_reducible refine bC (eof_any _ _ _ hidl) ?_)|(refine aL ?_))
   go_ret;exact⟨rfl,m,HA.out,Hback.out _ _ hS⟩
 | none =>
   rw[hf] at hm hF;have HF:=yH hF;clear hF hTab hT hf;simp only[] at hm;cases had:s.add x l h with
   | none=>rw[had] at hm;cases hm
   | some o =>
     cases o with
     | none=>rw[had] at hm;cases hm
     | some q =>
       obtain⟨s1,id⟩:=q;rw[had] at hm;cases hm;have HAd:=yH had;have hidl:=add_lt had;clear had;go_enter Tryz.func146,Tryz.ntmps146;go_wp2_with (first|(go_at_call 133;with_reducible refine bC (HNo.out _) ?_)|(go_at_call 134;with_reducible refine bC (HF.out _ hS.ile) ?_)|(go_at_call 135;(with_reducible refine yI (sadd_some HAd.out hA3 hB3 HA.out (Hback.out _ _ hS)) ?_);clear hS;rintro e w ⟨rfl,hfin⟩;have Hfin:=yH hfin;clear hfin)|(go_at_call 54;with_reducible refine bC (eof_any _ _ _ hidl) ?_)|(refine aL ?_))
       go_ret;exact⟨rfl,Hfin.out⟩
end
section
open Go.RowKit
theorem int_one(n:Int):∀u∈(Value.cells (.int .i64 n)).toList,u.oneCell'=true:=by simp[Value.cells,Value.oneCell']
theorem smore_any{E:World}{I:PH}{S:Nat}:∀(k:Nat) (s s':G.St) (f:Nat) (m:PH) (ms:List PH) (w:World),G.St.more k s f=some s'->f<4611686018427387904->StAt S s m->Sat E I (m::ms) w ->
  Calls Tryz.prog 147 #[vPt S,nv f] w λe w'=>e=.returned (.tuple #[])/\∃m',StAt S s' m'/\Sat E I (m'::ms) w'
 | 0,s,s',f,m,ms,w,hm,_,_,_=>by unfold G.St.more at hm;cases hm
 | k+1,s,s',f,m,ms,w,hm,hf,hA,hS=>by
   have HN:=yH (λw':World=>Xs w' f (by omega));unfold G.St.more at hm;by_cases h0:f/2=0
   . rw[jAb h0] at hm
     cases hm;rw[h0] at HN;go_enter Tryz.func147,Tryz.ntmps147;go_wp2_with (first|(go_at_call 49;with_reducible refine bC (HN.out _) ?_))
     ( ( refine bodyPost_ret (results_none rfl _ _ _) rfl ?_))
     exact⟨rfl,m,hA,hS⟩
   rw[jAa h0] at hm;generalize hid:f/2=id at *
   have h0i:¬(id:Int)=0:=by omega
   cases hc:s.cnt[id]? with
   | none=>rw[hc] at hm;cases hm
   | some c =>
   rw[hc] at hm;simp only[] at hm;obtain⟨hf0,L,P,vV,vL,vT,vC,gs,mV,mL,mP,mT,mC,tms,hbd,hV,hL,hP,hT,hC,hgs,htm,htab⟩:=hA;have hil:id<s.cnt.length:=(yE.1 hc).1;have hcb:c<=4611686018427387904:=hf0.cntb c (jCb hc);have hdb:=hf0.dead;have hcl:=hf0.cnt;obtain⟨C,cC,rfl,_⟩:=hC.ptr (by omega);have hS:=Sat.unpack hbd hS;simp only[List.cons_append] at hS;have iC:Cells mC C id [nv c]:=by
    have:=Qs Kt hC hc
    rwa [jG] at this
   have HiC:=yH iC;have HC:=yH hC;have hcn:∀(x:Nat) (y:Int),(x:Int)=y->∀m',OwnP m' 3 1 (.slice (some ⟨C,0,none⟩) s.cnt.length cC) s.cnt.length (spl (s.cnt.flatMap ivC) id [.int .i64 y])->OwnP m' 3 1 (.slice (some ⟨C,0,none⟩) s.cnt.length cC) s.cnt.length ((s.cnt.set id x).flatMap ivC)/\Cells m' C id [.int .i64 y]:=λx y hy m' hO=>by
    subst hy;have h1:OwnP m' 3 1 (.slice (some ⟨C,0,none⟩) s.cnt.length cC) s.cnt.length ((s.cnt.set id x).flatMap ivC):=by
     rw[<- flat_set Kt _ _ hil,jG];exact hO
    refine⟨h1,?_⟩
    have:=Qs Kt h1 (jP hil)
    rwa [jG] at this
   have hP0:=hP.read;have hpf:=hP.1;have hclose:∀(x d:Nat) (mC':PH) (ns:List PH) (w':World),x<=4611686018427387904->d<=4611686018427387904->OwnP mC' 3 1 (.slice (some ⟨C,0,none⟩) s.cnt.length cC) s.cnt.length ((s.cnt.set id x).flatMap ivC) ->
     Sat E I (PH.one S (.cells #[vPt L,vPt P,vT,.slice (some ⟨C,0,none⟩) s.cnt.length cC,nv d] 164)::PH.one L (.cells #[vV,vL] 166)::mV::mL::mP::mT::mC'::(tms++ns)) w'->∃m',StAt S { s with cnt:=s.cnt.set id x,dead:=d } m'/\Sat E I (m'::ns) w':=λx d mC' ns w' hx hd hO hS'=>by
    have hl:(s.cnt.set id x).length=s.cnt.length:=jJa;refine StAt.close (s:={ s with cnt:=s.cnt.set id x,dead:=d }) ⟨hf0.vars,hf0.lev,hf0.tabs,by show (s.cnt.set id x).length<=_;rw[hl];exact hf0.cnt,λc' hc'=>?_,hd,hf0.levb,hf0.varb⟩ hV hL hP hT (by show OwnP _ _ _ _ (s.cnt.set id x).length _;rw[hl];exact hO) hgs htm htab hS';rcases kBa hc' with h|h
    . exact hf0.cntb c' h
    . rw[h];exact hx
   have Hclose:=yH hclose;clear hclose hbd hT hC hV hL hgs htm htab iC hP hf0 hid;by_cases hbig:c<G.big
   case neg=>rw[jAa hbig] at hm;cases hm
   rw[jAb hbig] at hm;have hbig:c<4611686018427387904:=hbig;by_cases hc0:c=0
   . rw[jAb hc0] at hm
     cases hd:s.nd id with
     | none=>rw[hd] at hm;split at hm <;> cases hm
     | some n =>
     rw[hd] at hm;by_cases hdp:0<s.dead
     case neg=>rw[jAa hdp] at hm;cases hm
     rw[jAb hdp] at hm;simp only[] at hm;have HCn:=yH (hcn 1 (((0:Nat):Int)+1) (by omega));have hnf:=hpf.nd id n (G.Pl.nd_some.1 hd).2;have hn1:=hnf.2.1;have hn2:=hnf.2.2.1;have hpat:=λ(w':World) (hle:mP.le (Qa w'))=>pat_nat (hP0.le hle) id
     rw[show s.pl.nd id=some n from hd] at hpat;have HPat:=yH (show ∀(w':World),mP.le (Qa w')->Calls Tryz.prog 128 #[vPt P,nv id] w' λe w''=>e=.returned (.tuple #[.agg #[nv id,nv n.v,nv n.lo,nv n.hi,nv n.refs],.bool true])/\Below w'.heap.size w' w'' from hpat);cases h1:G.St.more k { s with cnt:=s.cnt.set id 1,dead:=s.dead-1 } n.lo with
     | none=>rw[h1] at hm;cases hm
     | some s1 =>
     rw[h1] at hm;simp only[] at hm;have H1:=yH h1;have H2:=yH hm;clear h1 hm hcn hpat hP0 hpf hd hnf hc;subst hc0;go_enter Tryz.func147,Tryz.ntmps147;go_wp2_with (first|(go_at_call 49;with_reducible refine bC (HN.out _) ?_)|(go_at_call 128;(with_reducible refine bB hS (HPat.out _ (hS.mle (k:=4) rfl)) ?_);clear hS;intro w hS)|((with_reducible refine Xa ?_);(refine st_row 6 hS rfl rfl rfl rfl rfl HC.out (jG _).symm hil Yg rfl (int_one _) ?_);clear hS;intro mC2 w hC2 hS;have HC2:=yH (HCn.out _ hC2);clear hC2;(try simp only[zF,zG] at hS);(try simp only[Act.put]))|((with_reducible refine Qe ?_);first|((refine' Xx (v:=nv 0) (.inr (List.Mem.tail _ (List.Mem.tail _ (List.Mem.tail _ (List.Mem.tail _ (List.Mem.tail _ (List.Mem.tail _ (List.Mem.head _)))))))) hS rfl rfl Qh rfl (HiC.out.at 0 rfl) ?_);refine aM ?_)|((refine' Xx (v:=.int .i64 (((0:Nat):Int)+1)) (.inr (List.Mem.tail _ (List.Mem.tail _ (List.Mem.tail _ (List.Mem.tail _ (List.Mem.tail _ (List.Mem.tail _ (List.Mem.head _)))))))) hS rfl rfl Qh rfl (HC2.out.2.at 0 rfl) ?_);refine aM ?_))|(refine aN 5 ?_;clear hS;intro X w hS)|(refine aL ?_)|(refine aS ?_;clear hS;intro w hS))
     have hS:=hS.perm (jU (l₁:=PH.one S (.cells #[vPt L,vPt P,vT,.slice (some ⟨C,0,none⟩) s.cnt.length cC,.int .i64 ((s.dead:Int)-1)] 164)::PH.one L (.cells #[vV,vL] 166)::mV::mL::mP::mT::mC2::tms) (l₂:=ms)).symm;have hDv:(.int .i64 ((s.dead:Int)-1):Value)=nv (s.dead-1):=by simp only[nv];  (congr 1 <;> omega)
     rw[hDv] at hS;refine Veil.out ?_;obtain⟨m1,hA1,hS1⟩:=Hclose.out 1 (s.dead-1) mC2 _ _ (by omega) (by omega) HC2.out.1 hS;have HA1:=yH hA1;refine⟨?_⟩;clear hS hA1;refine (smore_any k _ _ n.lo m1 _ _ H1.out hn1 HA1.out hS1).mono ?_;clear hS1;rintro e w ⟨rfl,m2,hA2,hS⟩;have HA2:=yH hA2;clear hA2;go_wp2_with (first|(refine aL ?_))
     refine (smore_any k _ _ n.hi m2 _ _ H2.out hn2 HA2.out hS).mono ?_;clear hS;rintro e w ⟨rfl,m3,hA3,hS⟩;have HA3:=yH hA3;clear hA3;go_wp2_with fail
     ( go_end0 )
     exact⟨rfl,m3,HA3.out,(hS.perm (List.Perm.swap _ _ _)).drop⟩
   . rw[jAa hc0] at hm
     cases hm;have HCn:=yH (hcn (c+1) ((c:Int)+1) (by omega));have hgt:(1:Int)<(c:Int)+1:=by omega
     clear hcn hP0 hpf hc;go_enter Tryz.func147,Tryz.ntmps147;go_wp2_with (first|(go_at_call 49;with_reducible refine bC (HN.out _) ?_)|((with_reducible refine Xa ?_);(refine st_row 6 hS rfl rfl rfl rfl rfl HC.out (jG _).symm hil Yg rfl (int_one _) ?_);clear hS;intro mC2 w hC2 hS;have HC2:=yH (HCn.out _ hC2);clear hC2;(try simp only[zF,zG] at hS);(try simp only[Act.put]))|((with_reducible refine Qe ?_);first|((refine' Xx (v:=nv c) (.inr (List.Mem.tail _ (List.Mem.tail _ (List.Mem.tail _ (List.Mem.tail _ (List.Mem.tail _ (List.Mem.tail _ (List.Mem.head _)))))))) hS rfl rfl Qh rfl (HiC.out.at 0 rfl) ?_);refine aM ?_)|((refine' Xx (v:=.int .i64 ((c:Int)+1)) (.inr (List.Mem.tail _ (List.Mem.tail _ (List.Mem.tail _ (List.Mem.tail _ (List.Mem.tail _ (List.Mem.tail _ (List.Mem.head _)))))))) hS rfl rfl Qh rfl (HC2.out.2.at 0 rfl) ?_);refine aM ?_))|(refine aL ?_))
     ( ( refine bodyPost_ret (results_none rfl _ _ _) rfl ?_))
     refine⟨rfl,?_⟩;exact Hclose.out (c+1) s.dead mC2 _ _ (by omega) (by omega) HC2.out.1 hS
theorem sless_any{E:World}{I:PH}{S:Nat}:∀(k:Nat) (s s':G.St) (f:Nat) (m:PH) (ms:List PH) (w:World),G.St.less k s f=some s'->f<4611686018427387904->StAt S s m->Sat E I (m::ms) w ->
  Calls Tryz.prog 138 #[vPt S,nv f] w λe w'=>e=.returned (.tuple #[])/\∃m',StAt S s' m'/\Sat E I (m'::ms) w'
 | 0,s,s',f,m,ms,w,hm,_,_,_=>by unfold G.St.less at hm;cases hm
 | k+1,s,s',f,m,ms,w,hm,hf,hA,hS=>by
   have HN:=yH (λw':World=>Xs w' f (by omega));unfold G.St.less at hm;by_cases h0:f/2=0
   . rw[jAb h0] at hm
     cases hm;rw[h0] at HN;go_enter Tryz.func138,Tryz.ntmps138;go_wp2_with (first|(go_at_call 49;with_reducible refine bC (HN.out _) ?_))
     ( ( refine bodyPost_ret (results_none rfl _ _ _) rfl ?_))
     exact⟨rfl,m,hA,hS⟩
   rw[jAa h0] at hm;generalize hid:f/2=id at *
   have h0i:¬(id:Int)=0:=by omega
   cases hc:s.cnt[id]? with
   | none=>rw[hc] at hm;cases hm
   | some c =>
   rw[hc] at hm;simp only[] at hm;obtain⟨hf0,L,P,vV,vL,vT,vC,gs,mV,mL,mP,mT,mC,tms,hbd,hV,hL,hP,hT,hC,hgs,htm,htab⟩:=hA;have hil:id<s.cnt.length:=(yE.1 hc).1;have hcb:c<=4611686018427387904:=hf0.cntb c (jCb hc);have hdb:=hf0.dead;have hcl:=hf0.cnt;obtain⟨C,cC,rfl,_⟩:=hC.ptr (by omega);have hS:=Sat.unpack hbd hS;simp only[List.cons_append] at hS;have iC:Cells mC C id [nv c]:=by
    have:=Qs Kt hC hc
    rwa [jG] at this
   have HiC:=yH iC;have HC:=yH hC;have hcn:∀(x:Nat) (y:Int),(x:Int)=y->∀m',OwnP m' 3 1 (.slice (some ⟨C,0,none⟩) s.cnt.length cC) s.cnt.length (spl (s.cnt.flatMap ivC) id [.int .i64 y])->OwnP m' 3 1 (.slice (some ⟨C,0,none⟩) s.cnt.length cC) s.cnt.length ((s.cnt.set id x).flatMap ivC)/\Cells m' C id [.int .i64 y]:=λx y hy m' hO=>by
    subst hy;have h1:OwnP m' 3 1 (.slice (some ⟨C,0,none⟩) s.cnt.length cC) s.cnt.length ((s.cnt.set id x).flatMap ivC):=by
     rw[<- flat_set Kt _ _ hil,jG];exact hO
    refine⟨h1,?_⟩
    have:=Qs Kt h1 (jP hil)
    rwa [jG] at this
   have hP0:=hP.read;have hpf:=hP.1;have hclose:∀(x d:Nat) (mC':PH) (ns:List PH) (w':World),x<=4611686018427387904->d<=4611686018427387904->OwnP mC' 3 1 (.slice (some ⟨C,0,none⟩) s.cnt.length cC) s.cnt.length ((s.cnt.set id x).flatMap ivC) ->
     Sat E I (PH.one S (.cells #[vPt L,vPt P,vT,.slice (some ⟨C,0,none⟩) s.cnt.length cC,nv d] 164)::PH.one L (.cells #[vV,vL] 166)::mV::mL::mP::mT::mC'::(tms++ns)) w'->∃m',StAt S { s with cnt:=s.cnt.set id x,dead:=d } m'/\Sat E I (m'::ns) w':=λx d mC' ns w' hx hd hO hS'=>by
    have hl:(s.cnt.set id x).length=s.cnt.length:=jJa;refine StAt.close (s:={ s with cnt:=s.cnt.set id x,dead:=d }) ⟨hf0.vars,hf0.lev,hf0.tabs,by show (s.cnt.set id x).length<=_;rw[hl];exact hf0.cnt,λc' hc'=>?_,hd,hf0.levb,hf0.varb⟩ hV hL hP hT (by show OwnP _ _ _ _ (s.cnt.set id x).length _;rw[hl];exact hO) hgs htm htab hS';rcases kBa hc' with h|h
    . exact hf0.cntb c' h
    . rw[h];exact hx
   have Hclose:=yH hclose;clear hclose hbd hT hC hV hL hgs htm htab iC hP hf0 hid;by_cases hcz:c=0
   . rw[jAb hcz] at hm;cases hm
   rw[jAa hcz] at hm;by_cases hc1:c=1
   . rw[jAb hc1] at hm
     cases hd:s.nd id with
     | none=>rw[hd] at hm;split at hm <;> cases hm
     | some n =>
     rw[hd] at hm;by_cases hdp:s.dead<G.big
     case neg=>rw[jAa hdp] at hm;cases hm
     rw[jAb hdp] at hm;have hdp:s.dead<4611686018427387904:=hdp;simp only[] at hm;have HCn:=yH (hcn 0 (((1:Nat):Int)-1) (by omega));have hnf:=hpf.nd id n (G.Pl.nd_some.1 hd).2;have hn1:=hnf.2.1;have hn2:=hnf.2.2.1;have hpat:=λ(w':World) (hle:mP.le (Qa w'))=>pat_nat (hP0.le hle) id
     rw[show s.pl.nd id=some n from hd] at hpat;have HPat:=yH (show ∀(w':World),mP.le (Qa w')->Calls Tryz.prog 128 #[vPt P,nv id] w' λe w''=>e=.returned (.tuple #[.agg #[nv id,nv n.v,nv n.lo,nv n.hi,nv n.refs],.bool true])/\Below w'.heap.size w' w'' from hpat);cases h1:G.St.less k { s with cnt:=s.cnt.set id 0,dead:=s.dead+1 } n.lo with
     | none=>rw[h1] at hm;cases hm
     | some s1 =>
     rw[h1] at hm;simp only[] at hm;have H1:=yH h1;have H2:=yH hm;clear h1 hm hcn hpat hP0 hpf hd hnf hc;subst hc1;go_enter Tryz.func138,Tryz.ntmps138;go_wp2_with (first|(go_at_call 49;with_reducible refine bC (HN.out _) ?_)|(go_at_call 128;(with_reducible refine bB hS (HPat.out _ (hS.mle (k:=4) rfl)) ?_);clear hS;intro w hS)|((with_reducible refine Xa ?_);(refine st_row 6 hS rfl rfl rfl rfl rfl HC.out (jG _).symm hil Yg rfl (int_one _) ?_);clear hS;intro mC2 w hC2 hS;have HC2:=yH (HCn.out _ hC2);clear hC2;(try simp only[zF,zG] at hS);(try simp only[Act.put]))|((with_reducible refine Qe ?_);first|((refine' Xx (v:=nv 1) (.inr (List.Mem.tail _ (List.Mem.tail _ (List.Mem.tail _ (List.Mem.tail _ (List.Mem.tail _ (List.Mem.tail _ (List.Mem.head _)))))))) hS rfl rfl Qh rfl (HiC.out.at 0 rfl) ?_);refine aM ?_)|((refine' Xx (v:=.int .i64 (((1:Nat):Int)-1)) (.inr (List.Mem.tail _ (List.Mem.tail _ (List.Mem.tail _ (List.Mem.tail _ (List.Mem.tail _ (List.Mem.tail _ (List.Mem.head _)))))))) hS rfl rfl Qh rfl (HC2.out.2.at 0 rfl) ?_);refine aM ?_))|(refine aN 5 ?_;clear hS;intro X w hS)|(refine aL ?_)|(refine aS ?_;clear hS;intro w hS))
     have hS:=hS.perm (jU (l₁:=PH.one S (.cells #[vPt L,vPt P,vT,.slice (some ⟨C,0,none⟩) s.cnt.length cC,.int .i64 ((s.dead:Int)+1)] 164)::PH.one L (.cells #[vV,vL] 166)::mV::mL::mP::mT::mC2::tms) (l₂:=ms)).symm;have hDv:(.int .i64 ((s.dead:Int)+1):Value)=nv (s.dead+1):=by simp only[nv];  (congr 1 <;> omega)
     rw[hDv] at hS;refine Veil.out ?_;obtain⟨m1,hA1,hS1⟩:=Hclose.out 0 (s.dead+1) mC2 _ _ (by omega) (by omega) HC2.out.1 hS;have HA1:=yH hA1;refine⟨?_⟩;clear hS hA1;refine (sless_any k _ _ n.lo m1 _ _ H1.out hn1 HA1.out hS1).mono ?_;clear hS1;rintro e w ⟨rfl,m2,hA2,hS⟩;have HA2:=yH hA2;clear hA2;go_wp2_with (first|(refine aL ?_))
     refine (sless_any k _ _ n.hi m2 _ _ H2.out hn2 HA2.out hS).mono ?_;clear hS;rintro e w ⟨rfl,m3,hA3,hS⟩;have HA3:=yH hA3;clear hA3;go_wp2_with fail
     ( go_end0 )
     exact⟨rfl,m3,HA3.out,(hS.perm (List.Perm.swap _ _ _)).drop⟩
   . rw[jAa hc1] at hm
     cases hm;have HCn:=yH (hcn (c-1) ((c:Int)-1) (by omega));have hgt:(0:Int)<(c:Int)-1:=by omega
     clear hcn hP0 hpf hc;go_enter Tryz.func138,Tryz.ntmps138;go_wp2_with (first|(go_at_call 49;with_reducible refine bC (HN.out _) ?_)|((with_reducible refine Xa ?_);(refine st_row 6 hS rfl rfl rfl rfl rfl HC.out (jG _).symm hil Yg rfl (int_one _) ?_);clear hS;intro mC2 w hC2 hS;have HC2:=yH (HCn.out _ hC2);clear hC2;(try simp only[zF,zG] at hS);(try simp only[Act.put]))|((with_reducible refine Qe ?_);first|((refine' Xx (v:=nv c) (.inr (List.Mem.tail _ (List.Mem.tail _ (List.Mem.tail _ (List.Mem.tail _ (List.Mem.tail _ (List.Mem.tail _ (List.Mem.head _)))))))) hS rfl rfl Qh rfl (HiC.out.at 0 rfl) ?_);refine aM ?_)|((refine' Xx (v:=.int .i64 ((c:Int)-1)) (.inr (List.Mem.tail _ (List.Mem.tail _ (List.Mem.tail _ (List.Mem.tail _ (List.Mem.tail _ (List.Mem.tail _ (List.Mem.head _)))))))) hS rfl rfl Qh rfl (HC2.out.2.at 0 rfl) ?_);refine aM ?_))|(refine aL ?_))
     ( ( refine bodyPost_ret (results_none rfl _ _ _) rfl ?_))
     refine⟨rfl,?_⟩;exact Hclose.out (c-1) s.dead mC2 _ _ (by omega) (by omega) HC2.out.1 hS
end
section
open Go.RowKit
theorem shold_any{E w:World}{I m:PH}{ms:List PH}{S:Nat}{s s':G.St}{f:Int}{er:Nat}(hm:s.hold f=some (s',er))(hf:f<9223372036854775808)(hA:StAt S s m)(hS:Sat E I (m::ms) w) :
  Calls Tryz.prog 131 #[vPt S,.int .i64 f] w λe w'=>e=.returned (nv er)/\∃m',StAt S s' m'/\Sat E I (m'::ms) w':=by
 unfold G.St.hold at hm;cases b1:s.is f with
 | false =>
   rw[b1] at hm;cases hm;obtain⟨J,lJ,mJ,hS,back⟩:=hS.ice;have hR:=hA.read.le mJ;have Hback:=yH back;have HA:=yH hA;have HI:=yH (λ(w':World) (hle:J.le (Qa w'))=>sis_any (hR.le hle) f hf);rw[b1] at HI;clear hR back hA mJ lJ;go_enter Tryz.func131,Tryz.ntmps131;go_wp2_with (first|(go_at_call 103;(with_reducible refine bB hS (HI.out _ hS.ile) ?_);clear hS;intro w hS))
   go_ret;exact⟨rfl,m,HA.out,Hback.out _ _ hS⟩
 | true =>
 obtain⟨f,rfl⟩:∃a:Nat,f=(a:Int):=⟨f.toNat,by have:0<=f:=by { unfold G.St.is at b1;simp only[jI,jPa] at b1;exact b1.1 };omega⟩;have hAA:=hA;obtain⟨h0,L,P,vV,vL,vT,vC,gs,mV,mL,mP,mT,mC,tms,hbd,hV,hL,hP,hT,hC,hgs,htm,htab⟩:=hAA;have hpl:=hP.1;have hf1:=is_lt hpl b1;have hf2:f<4611686018427387904:=by omega
 obtain⟨J,lJ,mJ,hS,back⟩:=hS.ice;have Hback:=yH back;have hR:=hA.read.le mJ;have HI:=yH (λ(w':World) (hle:J.le (Qa w'))=>sis_any (hR.le hle) f (by omega));have HN:=yH (λw':World=>Xs w' f (by omega));rw[b1] at hm HI;clear hf;simp only[kC,jFa,jOb,Int.toNat_natCast] at hm;have mPm:mP.le m:=by rw[hbd.1];exact PH.all_mem hbd.2 (by simp)
 have hpat:=λ(w':World) (hle:J.le (Qa w'))=>pat_nat (hP.read.le (λb o hb=>hle b o (mJ b o (mPm b o hb)))) (f/2)
 have iS1:J.at S 1=some (vPt P):=PH.at_le (λb o hb=>mJ b o (PH.all_mem hbd.2 (.head _) b o hb |> λh=>by rw[hbd.1];exact h)) (Qb rfl);cases hn:s.nd (f/2) with
 | none =>
   rw[hn] at hm;cases hm;rw[show s.pl.nd (f/2)=none from hn] at hpat;have HPat:=yH hpat;have HAA:=yH hA;have HV5:=yH (Km (f/2) none).1;have HV1:=yH (Km (f/2) none).2;clear hpat hn hR back hA mJ lJ h0 hbd hV hL hP hT hC hgs htm htab hpl mPm;go_enter Tryz.func131,Tryz.ntmps131;go_wp2_with (first|(go_at_call 103;(with_reducible refine bB hS (HI.out _ hS.ile) ?_);clear hS;intro w hS))
   have hS:Sat E J ([]++ms) w:=hS;have HPA:=yH (λ(w':World) (hle:J.le (Qa w'))=>HPat.out w' hle);have HA:=HPA;clear HPat;refine Zf [[],[0],[0,1],[0,1,2],[],[4],[0,1,2,3,4,5],[0,1,2,3,4,5,6],[0,1,2,3,4,5,6,7],[0,1,2,3,4,5,6,7],[],[0,1,2,3,4,5,6,7,8,10],[0,1,2,3,4,5,6,7,8,9,10,11]] _ _ [] _ [⟨10,11,194,#[.int .i64 0,.int .i64 0,.int .i64 0,.int .i64 0,.int .i64 0],λcs _=>cs=(ndW (f/2) none).cells⟩] [λv _=>v=vPt S,λv _=>v=vPt S,λv _=>v=.pointer (some ⟨S,1,none⟩),λv _=>v=vPt P,λv _=>v=nv (f),λv _=>v=nv ((f)/2),λv _=>v=.tuple #[ndW (f/2) none,.bool (false)],λv _=>v=.tuple #[ndW (f/2) none,.bool (false)],λv _=>v=ndW (f/2) none,λv _=>v=.bool (false),λ_ _=>True,λ_ _=>True,λv _=>v=.bool (false)]
    (by kernel_rfl) (by kernel_rfl) (by simp) hS ?_ ?monoC ?okb ?dal ?fill ?plain ?fin
   . exact bL
   case monoC =>
    exact bM
   case okb =>
    intro b' hb';simp only[jBa,jCa,jJb] at hb';subst hb';exact⟨by simp,⟨rfl,rfl,rfl⟩,⟨_,Zw Xb,rfl⟩,⟨rfl,rfl,_,rfl⟩,by simp,Zx Qz⟩
   case dal =>
    exact bN
   case fill =>
    intro b' hb' vals J hJ hg;simp only[jBa,jCa,jJb] at hb';subst hb';simp only[zH,zI,Given,Facts] at hg;refine⟨ndW (f/2) none,by simp only[Zc,Qc,Qo,Qi,Qd,zH,zI,zA,zB,zK,jEb,Act.put,zE,zF,zG,Act.eval,zD,zC,zJ,hg],HV5.out,HV1.out,rfl⟩
   case plain =>
    repeat' (first|exact trivial|apply And.intro)
    all_goals first
     | (refine .inl (by rfl))
     | ((refine .inr ?_;intro vals J bs w hg hJ hS;refine bS ?_;intro K HK;(first|(refine bJ ?_)|(go_wp2_with (first|(go_at_call 49;with_reducible refine bC (HN.out _) ?_)|(go_at_call 128;((with_reducible refine bB hS (HA.out _ (PH.le.trans hJ hS.ile)) ?_);clear hS;intro w2 hS)))));( refine HK.out _ _ ⟨rfl,J,PH.le.refl _,hS,?_⟩ );clear HK;simp only[Facts,Qk,zH,zI,Act.put,zE,zF,zG,zD,zC,zA,zB,zJ]);done)
   case fin =>
    intro vals J9 bs w1 hJ9 hg hS hB;cases hB with
    | cons h1 hB =>
    cases hB;simp only[Bx.st,jEb] at h1;obtain⟨Y,cY,eY,rfl,zY,rfl⟩:=h1;have e10:vals 10=vPt Y:=eY;clear HPA HV5 HV1;have hS:=hS.less hJ9;simp only[List.nil_append,List.cons_append] at hS;refine bH ?_;clear hg;go_wp2_with fail
    go_ret;exact⟨rfl,m,HAA.out,(Hback.out _ _ hS).perm (List.Perm.swap _ _ _) |>.drop⟩
 | some n =>
   rw[hn] at hm;simp only[] at hm;rw[show s.pl.nd (f/2)=some n from hn] at hpat;have HPat:=yH hpat;have HAA:=yH hA;have HV5:=yH (Km (f/2) (some n)).1;have HV1:=yH (Km (f/2) (some n)).2;have hnf:=hpl.nd (f/2) n (G.Pl.nd_some.1 hn).2;have hnr:=hnf.2.2.2;have HP:=yH hP;have Hbd:=yH hbd;have Hnd:=yH (show s.pl.nd (f/2)=some n from hn);have hclose:∀(p':G.Pl) (mP':PH) (ns:List PH) (w':World),PoolAt P p' mP'->Sat E I (PH.one S (.cells #[vPt L,vPt P,vT,vC,nv s.dead] 164)::PH.one L (.cells #[vV,vL] 166)::mV::mL::mP'::mT::mC::(tms++ns)) w'->∃m',StAt S { s with pl:=p' } m'/\Sat E I (m'::ns) w' :=
    λp' mP' ns w' hp' hS'=>StAt.close (s:={ s with pl:=p' }) ⟨h0.vars,h0.lev,h0.tabs,h0.cnt,h0.cntb,h0.dead,h0.levb,h0.varb⟩ hV hL hp' hT hC hgs htm htab hS'
   have Hclose:=yH hclose;clear hpat hclose back hA mJ lJ h0 hbd hV hL hP hT hC hgs htm htab mPm;by_cases hz:n.refs<G.big
   case neg=>rw[jAa hz] at hm;cases hm
   rw[jAb hz] at hm;have hz:n.refs<4611686018427387904:=hz;have Hfit:=yH (show Fits { n with refs:=n.refs+1 } from ⟨hnf.1,hnf.2.1,hnf.2.2.1,show n.refs+1<_ by omega⟩);cases hmo:G.St.more G.fuel { s with pl:=s.pl.put (f/2) { n with refs:=n.refs+1 } } f with
   | none=>rw[hmo] at hm;cases hm
   | some s1 =>
   rw[hmo] at hm;cases hm;have HMo:=yH hmo;clear hmo hn hnf hpl hR;go_enter Tryz.func131,Tryz.ntmps131;go_wp2_with (first|(go_at_call 103;(with_reducible refine bB hS (HI.out _ hS.ile) ?_);clear hS;intro w hS))
   have hS:Sat E J ([]++ms) w:=hS;have HPA:=yH (λ(w':World) (hle:J.le (Qa w'))=>HPat.out w' hle);have HA:=HPA;clear HPat;refine Zf [[],[0],[0,1],[0,1,2],[],[4],[0,1,2,3,4,5],[0,1,2,3,4,5,6],[0,1,2,3,4,5,6,7],[0,1,2,3,4,5,6,7],[],[0,1,2,3,4,5,6,7,8,10],[0,1,2,3,4,5,6,7,8,9,10,11]] _ _ [] _ [⟨10,11,194,#[.int .i64 0,.int .i64 0,.int .i64 0,.int .i64 0,.int .i64 0],λcs _=>cs=(ndW (f/2) (some n)).cells⟩] [λv _=>v=vPt S,λv _=>v=vPt S,λv _=>v=.pointer (some ⟨S,1,none⟩),λv _=>v=vPt P,λv _=>v=nv (f),λv _=>v=nv ((f)/2),λv _=>v=.tuple #[ndW (f/2) (some n),.bool (true)],λv _=>v=.tuple #[ndW (f/2) (some n),.bool (true)],λv _=>v=ndW (f/2) (some n),λv _=>v=.bool (true),λ_ _=>True,λ_ _=>True,λv _=>v=.bool (true)]
    (by kernel_rfl) (by kernel_rfl) (by simp) hS ?_ ?monoC ?okb ?dal ?fill ?plain ?fin
   . exact bL
   case monoC =>
    exact bM
   case okb =>
    intro b' hb';simp only[jBa,jCa,jJb] at hb';subst hb';exact⟨by simp,⟨rfl,rfl,rfl⟩,⟨_,Zw Xb,rfl⟩,⟨rfl,rfl,_,rfl⟩,by simp,Zx Qz⟩
   case dal =>
    exact bN
   case fill =>
    intro b' hb' vals J hJ hg;simp only[jBa,jCa,jJb] at hb';subst hb';simp only[zH,zI,Given,Facts] at hg;refine⟨ndW (f/2) (some n),by simp only[Zc,Qc,Qo,Qi,Qd,zH,zI,zA,zB,zK,jEb,Act.put,zE,zF,zG,Act.eval,zD,zC,zJ,hg],HV5.out,HV1.out,rfl⟩
   case plain =>
    repeat' (first|exact trivial|apply And.intro)
    all_goals first
     | (refine .inl (by rfl))
     | ((refine .inr ?_;intro vals J bs w hg hJ hS;refine bS ?_;intro K HK;(first|(refine bJ ?_)|(go_wp2_with (first|(go_at_call 49;with_reducible refine bC (HN.out _) ?_)|(go_at_call 128;((with_reducible refine bB hS (HA.out _ (PH.le.trans hJ hS.ile)) ?_);clear hS;intro w2 hS)))));( refine HK.out _ _ ⟨rfl,J,PH.le.refl _,hS,?_⟩ );clear HK;simp only[Facts,Qk,zH,zI,Act.put,zE,zF,zG,zD,zC,zA,zB,zJ]);done)
   case fin =>
    intro vals J9 bs w1 hJ9 hg hS hB;cases hB with
    | cons h1 hB =>
    cases hB;simp only[Bx.st,jEb] at h1;obtain⟨Y,cY,eY,rfl,zY,rfl⟩:=h1;have e10:vals 10=vPt Y:=eY;clear HPA HV5 HV1;have hS:=hS.less hJ9;simp only[List.nil_append,List.cons_append] at hS;have hS:Sat E J (PH.one Y (.cells #[nv (f/2),nv n.v,nv n.lo,nv n.hi,nv n.refs] 194)::ms) w1:=hS;refine bH ?_;clear hg;simp only[e10];go_wp2_with (first|(refine aL ?_)|(refine aS ?_;clear hS;intro w hS))
    have hDv:(.int .i64 ((n.refs:Int)+1):Value)=nv (n.refs+1):=by simp only[nv];  (congr 1 <;> omega)
    rw[hDv] at hS;have hS:=Hback.out _ _ hS;have hS:=Sat.unpack Hbd.out hS;simp only[List.cons_append] at hS;obtain⟨I1,l01,lS,hS1,bS⟩:=hS.ice;have hS1:=hS1.perm (jU (l₁:=PH.one L (.cells #[vV,vL] 166)::mV::mL::mP::mT::mC::tms) (l₂:=ms));obtain⟨I2,l12,lY,hS2,bY⟩:=hS1.ice;have iS1:I2.at S 1=some (vPt P):=PH.at_le l12 (PH.at_le lS (Qb rfl));have iY:Cells I2 Y 0 [nv (f/2),nv n.v,nv n.lo,nv n.hi,nv (n.refs+1)]:=(Cells.one Y #[nv (f/2),nv n.v,nv n.lo,nv n.hi,nv (n.refs+1)] 194 (0,0)).le lY;have HbS:=yH bS;have HbY:=yH bY;clear hS hS1 bS bY lS lY l12 l01;refine Qf [[],[0],[0,1],[0,1,2],[],[0,1,2,3,4]] E I2 _
     [λv _=>v=vPt S,λv _=>v=vPt S,λv _=>v=.pointer (some ⟨S,1,none⟩),λv _=>v=vPt P,λv _=>v=ndA (f/2) { n with refs:=n.refs+1 },λ_ _=>True] [5]
     (set1G _ 3 (λm'=>PoolAt P (s.pl.put (f/2) { n with refs:=n.refs+1 }) m')) (by kernel_rfl) (by kernel_rfl) (by decide) hS2 rfl ?last (λ_ _ _ _ _ _ h=>h) (λ_ _ _ _ _ _ h=>h) ?plain ?step ?fin
    case last=>exact bL
    case plain=>(repeat' (first|exact trivial|apply And.intro)) <;> first|exact .inl rfl|(refine .inr ?_;intro s vals J bs w hstop hg hJ hS hG;clear hG;refine bS ?_;intro K HK;(first|(refine bJ ?_)|(go_wp2_with (fail)));exact bO)
    case step =>
     refine⟨trivial,?_⟩;intro vals J bs w hg hJ hS hG;have hG:bs=_:=hG;subst hG;refine bS ?_;intro K HK;go_wp2_with (go_at_call 137;(with_reducible refine yI (pset_any _ _ _ _ _ P s.pl (f/2) { n with refs:=n.refs+1 } n Hnd.out Hfit.out HP.out (hS.pick 3 rfl)) ?_);clear hS;rintro e w ⟨rfl,mP',hP',hS⟩)
     exact HK.out _ _ ⟨rfl,J,_,PH.le.refl _,hS.back 3 rfl,trivial,mP',hP',rfl⟩
    case fin =>
     intro vals J bs w hJ hg hS hG;obtain⟨mP',hP',hns⟩:=hG;subst hns;have hS:=hS.less hJ;have hS:=HbY.out _ _ hS;simp only[List.cons_append,zF,zG] at hS;have hS:=HbS.out _ _ (hS.perm (jU (l₁:=PH.one L (.cells #[vV,vL] 166)::mV::mL::mP'::mT::mC::tms) (l₂:=ms)).symm);obtain⟨m1,hA1,hS1⟩:=Hclose.out _ mP' _ _ hP' hS;have HA1:=yH hA1;refine bH ?_;clear hg hS hA1 hP' hJ;go_wp2_with fail
     refine (smore_any _ _ _ f m1 _ _ HMo.out hf2 HA1.out hS1).mono ?_;clear hS1;rintro e w ⟨rfl,m3,hA3,hS⟩;have HA3:=yH hA3;clear hA3;go_wp2_with fail
     go_ret;exact⟨rfl,m3,HA3.out,(hS.perm (List.Perm.swap _ _ _)).drop⟩
end
section
open Go.RowKit
theorem HsR.push{l:List (Rw Int)}{hs:List (Int×Nat)}(h:HsR l hs)(k:Int)(f c:Nat):HsR (l++[⟨k,nv f,c⟩]) (hs++[(k,f)]):=by
 unfold HsR at h ⊢;rw[jGa,jGa,h];rfl
theorem give_any{E w:World}{I p:PH}{ms:List PH}{D f h:Nat}{m m':G.Mg}(hg:m.give f=some (m',h))(hf:f<9223372036854775808)(hnew:m.of (m.next:Int)=none)(hA:MgAt D m p)(hS:Sat E I (p::ms) w) :
  Calls Tryz.prog 104 #[vPt D,nv f] w λe w'=>e=.returned (nv h)/\∃p',MgAt D m' p'/\Sat E I (p'::ms) w':=by
 have hfit:=hA.fit;obtain⟨S,M,H,wv,mS,mM,mH,mW,h1,h2,⟨l,clock,rfl,hok,hr⟩,h4,hS⟩:=hA.open_ hS;unfold G.Mg.give at hg;by_cases hb:G.big<=m.next
 . rw[jAb hb] at hg;cases hg
 rw[jAa hb] at hg;cases hh:m.s.hold f with
 | none=>rw[hh] at hg;cases hg
 | some q =>
   obtain⟨s',er⟩:=q;rw[hh] at hg;simp only[Option.map_some,jEa,jIa] at hg;obtain⟨rfl,rfl⟩:=hg;have hq:=hr.get (m.next:Int);have ho:m.of (m.next:Int)=(m.hs.find? λp=>p.1==(m.next:Int)).map (·.2):=rfl;rw[<- ho,hnew] at hq;have hbig:G.big=4611686018427387904:=rfl;have hn:(m.next:Int)<4611686018427387904:=by omega
   have hn0:(0:Int)<=(m.next:Int):=by omega
   have fin:∀(mS':PH) (w':World),StAt S s' mS'->Sat E I (PH.one D (.cells (Xe S M H ((m.next:Int)+1) wv m.calls) 117)::mS'::mM::PH.one H (Qj ikey (l++[⟨(m.next:Int),nv f,clock⟩]) (clock+1))::mW::ms) w' ->
     ∃p',MgAt D { m with s:=s',hs:=m.hs++[((m.next:Int),f)],next:=m.next+1 } p'/\Sat E I (p'::ms) w':=λmS' w' a b =>
    MgAt.close (m:={ m with s:=s',hs:=m.hs++[((m.next:Int),f)],next:=m.next+1 }) ⟨by show m.next+1<=G.big;omega,hfit.2⟩ a h2 ⟨_,_,rfl,hok.push hq _,hr.push _ _ _⟩ h4 (by rw[show (((m.next+1:Nat):Int))=(m.next:Int)+1 by omega];exact b)
   have HF:=yH fin;clear hfit;have HH:=yH hh;have HSt:=yH h1;have Hq:=yH hq;have Hok:=yH hok;clear fin hh h1 hq hok ho hnew h2 h4 hr hA hbig hb;unfold Xe at hS;simp only[Xe] at HF;generalize m.calls=cl at *
   generalize hnx:(m.next:Int)=nx at *
   go_enter Tryz.func104,Tryz.ntmps104;go_wp2_with (first|(go_at_call 131;(with_reducible refine yI (shold_any HH.out (by omega) HSt.out (hS.pick 1 rfl)) ?_);clear hS;rintro e w ⟨rfl,mS',hSt',hS⟩;have HSt':=yH hSt';clear hSt';replace hS:=Sat.back (m:=mS) 1 rfl hS;simp only[zF,zG] at hS)|((with_reducible refine isUpdate ?_);refine muNew hS 3 rfl kI Tryz.underlying115 rfl rfl rfl rfl rfl Hok.out Hq.out ?_;clear hS;intro w hS;(try simp only[zF,zG,Act.eval,zD,zC,zA,zB,zJ] at hS);(try simp only[Act.put]))|(refine aL ?_)|(refine aS ?_;clear hS;intro w hS))
   go_ret;subst hnx;exact⟨rfl,HF.out _ _ HSt'.out hS⟩
end
section
open Go.RowKit
theorem ty_sz211:Kg Tryz.prog 211=some 6:=by kernel_rfl
theorem ty_agg205:Ky Tryz.prog 205=some true:=by kernel_rfl
theorem ty_sz205:Kg Tryz.prog 205=some 3:=by kernel_rfl
abbrev keyV(op a b d:Nat):Value:=.agg #[nv op,nv a,nv b,nv d]
def hshG(f:Nat->Nat->Nat)(op a b d:Nat):Nat->Nat
 | 0=>op
 | 1=>f op a
 | 2=>f (f op a) b
 | _=>f (f (f op a) b) d
theorem hsh0(f:Nat->Nat->Nat)(op a b d:Nat):hshG f op a b d 0=op:=rfl
theorem hsh1(f:Nat->Nat->Nat)(op a b d:Nat):hshG f op a b d 1=f op a:=rfl
theorem hsh2(f:Nat->Nat->Nat)(op a b d:Nat):hshG f op a b d 2=f (f op a) b:=rfl
theorem hsh3(f:Nat->Nat->Nat)(op a b d:Nat):hshG f op a b d 3=f (f (f op a) b) d:=rfl
theorem p64:(2:Nat)^64=18446744073709551616:=by decide
theorem mixH_lt(n e:Nat):G.mixH n e<18446744073709551616:=by
 unfold G.mixH;rw[<- p64];generalize hk:(n ^^^ e)*11400714819323198485%2^64=k;have h1:k<2^64:=by rw[<- hk];exact Nat.mod_lt _ (qB 64)
 exact Nat.xor_lt_two_pow h1 (Nat.lt_of_le_of_lt (Nat.div_le_self _ _) h1)
theorem ldPN{P:Program}{o:Oper}{a:Act}{w:World}{Q:Exit->Act->World->Prop}{ops:Array Oper}{rest:List Oper}{p:PH}(hp:p.le (Qa w))(hg:o.guard=none){T:TypeId}{x:Operand}(ho:o.op=.load T x)(hT:Ky P T=some true){X off:Nat}{vs:List Value}(hx:a.eval x=.pointer (some ⟨X,off,none⟩))(hc:Cells p X off vs)(hs:Kg P T=some vs.length)(h:wpList P ops Q rest (a.put o.dst (.agg vs.toArray)) w):wpList P ops Q (o::rest) a w :=
 wpList_plain hg λ_ hK=>wp_ldN hp ho hT hx hc hs (hK _ _ h)
theorem key_mid(X:Nat)(op a b d:Value)(T:TypeId):Cells (PH.one X (.cells #[op,a,b,d] T (0,0))) X 1 [a,b,d]:=by
 have:=(Cells.one X #[op,a,b,d] T (0,0)).part 1 3;exact this
theorem xor64{a b:Nat}(ha:a<18446744073709551616)(hb:b<18446744073709551616):bits .xor .u64 (a:Int) (b:Int)=((a ^^^ b:Nat):Int):=by
 have ha':a%2^64=a:=kJ (by rw[p64];exact ha);have hb':b%2^64=b:=kJ (by rw[p64];exact hb);have hx:a ^^^ b<2^64:=Nat.xor_lt_two_pow (by rw[p64];exact ha) (by rw[p64];exact hb);rw[p64] at hx;have e:IntKind.u64.bits=64:=rfl;simp only[bits,BitVec.ofInt_natCast,BitVec.toNat_xor,BitVec.toNat_ofNat,e,ha',hb'];rw[IntKind.wrap_u64];omega
theorem mixI{n e:Nat}(hn:n<18446744073709551616)(he:e<18446744073709551616):bits .xor .u64 (IntKind.u64.wrap (bits .xor .u64 (n:Int) (e:Int)*11400714819323198485)) (IntKind.u64.wrap (bits .xor .u64 (n:Int) (e:Int)*11400714819323198485)/536870912)=((G.mixH n e:Nat):Int):=by
 rw[xor64 hn he];have h1:IntKind.u64.wrap (((n ^^^ e:Nat):Int)*11400714819323198485)=(((n ^^^ e)*11400714819323198485%18446744073709551616:Nat):Int):=by
  rw[IntKind.wrap_u64];omega
 rw[h1];have h2:((n ^^^ e)*11400714819323198485%18446744073709551616)<18446744073709551616:=Nat.mod_lt _ (by omega);have h3:G.mixH n e=((n ^^^ e)*11400714819323198485%18446744073709551616) ^^^ (((n ^^^ e)*11400714819323198485%18446744073709551616)/536870912):=by unfold G.mixH;rfl
 rw[h3];generalize (n ^^^ e)*11400714819323198485%18446744073709551616=k at *
 have h4:((k:Int)/536870912)=((k/536870912:Nat):Int):=by omega
 rw[h4,xor64 h2 (by omega)]
theorem isIndexR{P:Program}{a:Act}{w:World}{Q:Exit->Act->World->Prop}{ops:Array Oper}{rest:List Oper}{dst:Option Tmp}{type:TypeId}{pos:String}{after:Array Edge}{T:TypeId}{x y:Operand}(h:wpList P ops Q (⟨dst,.index T x y,type,pos,after,none⟩::rest) a w):wpList P ops Q (⟨dst,.index T x y,type,pos,after,none⟩::rest) a w:=h
theorem ixR{P:Program}{a:Act}{w:World}{Q:Exit->Act->World->Prop}{ops:Array Oper}{rest:List Oper}{o:Oper}(hg:o.guard=none){T:TypeId}{x y:Operand}(ho:o.op=.index T x y){v u r:Value}(hx:a.eval x=v)(hy:a.eval y=u)(hr:(Instr.index T v u).run P w=.ok r w)(h:wpList P ops Q rest (a.put o.dst r) w):wpList P ops Q (o::rest) a w :=
 wpList_plain hg λ_ hK=>by
  unfold Oper.wp execOp;simp only[ho,hx,hy,Sem.run_bind,hr,Result.andThen_ok,Sem.run_pure];exact hK _ _ h
theorem ix0(x y z:Int)(w:World):(Instr.index 205 (.agg #[.int .i64 x,.int .i64 y,.int .i64 z]) (.int .i64 0)).run Tryz.prog w=.ok (.int .i64 x) w:=by kernel_rfl
theorem ix1(x y z:Int)(w:World):(Instr.index 205 (.agg #[.int .i64 x,.int .i64 y,.int .i64 z]) (.int .i64 1)).run Tryz.prog w=.ok (.int .i64 y) w:=by kernel_rfl
theorem ix2(x y z:Int)(w:World):(Instr.index 205 (.agg #[.int .i64 x,.int .i64 y,.int .i64 z]) (.int .i64 2)).run Tryz.prog w=.ok (.int .i64 z) w:=by kernel_rfl
theorem place_any{W:World}{X A c:Nat}(hX:(Qa W).at X 1=some (.slice (some ⟨A,0,none⟩) 4096 c))(op a b d:Nat)(h0:op<4611686018427387904)(h1:a<4611686018427387904)(h2:b<4611686018427387904)(h3:d<4611686018427387904) :
  Calls Tryz.prog 136 #[vPt X,keyV op a b d] W λe w'=>e=.returned (.pointer (some ⟨A,G.placeH op a b d*6,none⟩))/\Below W.heap.size W w':=by
 have hS:=Sat.start W;go_enter Tryz.func136,Tryz.ntmps136;go_wp2_with (first|((with_reducible refine Qe ?_);refine ldPN (hS.mle (k:=0) rfl) rfl rfl ty_agg205 rfl (key_mid _ _ _ _ _ _) ty_sz205 ?_;refine aM ?_)|(refine aN 3 ?_;clear hS;intro X3 w hS)|(refine aL ?_))
 go_loopw [5,13] (λv5 v13 wr=>∃i:Nat,i<=3/\v13=.int .i64 (i:Int)/\v5=.int .u64 ((hshG G.mixH op a b d i:Nat):Int)/\Sat W (Qa W) [PH.one X3 (.cells #[nv op,nv a,nv b,nv d] 207)] wr) (λ_ v13 _=>(3-intOf v13).toNat)
 case atStart=>exact⟨0,jC _,rfl,by rw[hsh0],hS⟩
 case round =>
  clear hS;obtain⟨i,hi,rfl,rfl,hS⟩:=hrel;by_cases hlt:i<3
  . have hiN:(i:Int)<3:=by omega
    rcases (by omega:i=0\/i=1\/i=2) with rfl|rfl|rfl
    . rw[hsh0] at *
      go_wp2_with (first|((with_reducible refine isIndexR ?_);(refine ixR rfl rfl rfl rfl (ix0 _ _ _ _) ?_);refine aM ?_))
      exact⟨⟨1,by omega,rfl,by rw[hsh1,mixI (by omega) (by omega)],hS⟩,by simp[intOf]⟩
    . rw[hsh1] at *
      have hm:=mixH_lt op a;have he1:=hsh2 G.mixH op a b d;generalize G.mixH op a=y at *
      go_wp2_with (first|((with_reducible refine isIndexR ?_);(refine ixR rfl rfl rfl rfl (ix1 _ _ _ _) ?_);refine aM ?_))
      exact⟨⟨2,by omega,rfl,by rw[he1,mixI hm (by omega)],hS⟩,by simp[intOf]⟩
    . rw[hsh2] at *
      have hm:=mixH_lt (G.mixH op a) b;have he1:=hsh3 G.mixH op a b d;generalize G.mixH (G.mixH op a) b=y at *
      go_wp2_with (first|((with_reducible refine isIndexR ?_);(refine ixR rfl rfl rfl rfl (ix2 _ _ _ _) ?_);refine aM ?_))
      exact⟨⟨3,by omega,rfl,by rw[he1,mixI hm (by omega)],hS⟩,by simp[intOf]⟩
  . have hiN:i=3:=by omega
    subst hiN;have hle:G.placeH op a b d<4096:=by unfold G.placeH;exact Nat.mod_lt _ (by omega)
    have hpl:G.placeH op a b d=hshG G.mixH op a b d 3%4096:=by rw[hsh3];unfold G.placeH;rfl
    have HP:=yH hpl;rw[hpl] at hle;generalize hshG G.mixH op a b d 3=hh at *
    have x1:wr.cell? ⟨X,1,none⟩=some (.slice (some ⟨A,0,none⟩) 4096 c):=Ql hS.ile hX;have e4:IntKind.u64.wrap 4096=4096:=rfl;clear hpl hi hlt;go_wp2_with fail
    go_quiet (fail)
    go_wp2_with fail
    go_ret;refine⟨?_,(hS.drewN nq).end_ (PH.le.refl _)⟩;rw[HP.out];rfl
end
end Go.Proofs.YtidamcdklgfogaaGreat
