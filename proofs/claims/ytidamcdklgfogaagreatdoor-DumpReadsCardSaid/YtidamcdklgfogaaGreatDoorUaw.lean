import Derived.Test.YtidamcdklgfogaaGreatDoorUau
set_option linter.unusedVariables false
set_option linter.unusedSimpArgs false
set_option maxRecDepth 1000000
set_option maxHeartbeats 40000000
namespace Go.Proofs.YtidamcdklgfogaaGreatDoor
section
open Go.RowKit
theorem cutAll_snoc (s:G.St) {x:Nat} (hx:x<s.tabs.length) (l:List G.Td) (t:G.Td):{ s.cutAll x l with tabs:=(s.cutAll x l).tabs.set x (G.cutT ((s.cutAll x l).tab x) t.n.lo t.n.hi) }=s.cutAll x (l ++ [t]):=by
 have h1:(s.cutAll x l).tab x=l.foldl (fun t d=>G.cutT t d.n.lo d.n.hi) (s.tab x):=by
  rcases G.tab_set s (v:=x) (x:=x) (t:=l.foldl (fun t d=>G.cutT t d.n.lo d.n.hi) (s.tab x)) with h|h
  . unfold G.St.cutAll G.St.tab
    rw [yD];show ((s.tabs.set x _)[x]?).getD []=_
    rw [jOb hx];rfl
  . exact h.1
 unfold G.St.cutAll at h1 ⊢;simp only [List.foldl_append,List.foldl_cons,List.foldl_nil,List.set_set,h1]
theorem cutAll_nil (s:G.St) {x:Nat} (hx:x<s.tabs.length):s.cutAll x []=s:=by
 unfold G.St.cutAll;simp only [List.foldl_nil]
 have:s.tabs.set x (s.tab x)=s.tabs:=by
  unfold G.St.tab;rw [yD,yA hx];exact List.set_getElem_self hx
 rw [this]
theorem Sane.cutAll {s:G.St} (h:Sane s) (x:Nat) (l:List G.Td):Sane (s.cutAll x l):=⟨h.pl,TabLt.set h.tab fun e he=>by
 have:∀ (l:List G.Td) (t:List G.Ent),(∀ e ∈ t,e.id<4194304)->∀ e ∈ l.foldl (fun t d=>G.cutT t d.n.lo d.n.hi) t,e.id<4194304:=by
  intro l
  induction l with
  | nil=>exact fun t ht=>ht
  | cons a l ih=>exact fun t ht=>ih _ fun e he=>ht e (mem_cutT he)
 exact this l _ (h.tab x) e he⟩
theorem sswap_bad {E w:World} {I m:PH} {ms:List PH} {S:Nat} {s:G.St} {level:Int} (hb:level<0\/level≥(s.vars.length:Int) - 1) (hA:StAt S s m) (hS:Sat E I (m::ms) w) :
  Calls Tryz.prog 51 #[vPt S,.int .i64 level] w fun e w'=>e=.returned (nv 2)/\Sat E I (m::ms) w':=by
 obtain ⟨J,lJ,mJ,hS,back⟩:=hS.ice;have hR:=hA.read.le mJ;have Hback:=yH back;obtain ⟨f0,L,P,vV,vL,vT,vC,gs,j0,_,_,_,_,jv,_,jV,_⟩:=hR;obtain ⟨⟨A,c,rfl⟩,_⟩:=jV;have hn:=f0.vars;clear back hA mJ lJ f0;generalize s.vars.length=n at *
 by_cases c0:level<0
 . clear hb j0 jv
   go_enter Tryz.func51,Tryz.ntmps51;go_wp2_with (fail)
   go_ret;exact ⟨rfl,Hback.out _ _ hS⟩
 . have c1:(n:Int) - 1<=level:=by omega
   have c0b:decide (level<0)=false:=by rw [jI];exact c0
   clear hb;go_enter Tryz.func51,Tryz.ntmps51;go_wp2_with (first|(refine aG ?_)|(refine aL ?_))
   go_ret;exact ⟨rfl,Hback.out _ _ hS⟩
theorem Kw {α β:Type} {o:Option α} {f:α->Option β} {b:β} (h:o.bind f=some b):∃ a,o=some a/\f a=some b:=by
 cases o with
 | none=>cases h
 | some a=>exact ⟨a,rfl,h⟩
theorem sswap_any {E w:World} {I m:PH} {ms:List PH} {S er:Nat} {s s':G.St} {level:Int} (hm:s.swap level=some (s',er)) (hs:Sane s) (hpm:G.PermOk s) (hlen:∀ s0 c,s.collect=some (s0,c)->∀ v,(s0.tab v).length<=1000000) (hA:StAt S s m) (hS:Sat E I (m::ms) w) :
  Calls Tryz.prog 51 #[vPt S,.int .i64 level] w fun e w'=>e=.returned (nv er)/\∃ m',StAt S s' m'/\Sat E I (m'::ms) w':=by
 unfold G.St.swap at hm;by_cases hb:level<0\/level≥(s.vars.length:Int) - 1
 . rw [jAa hb] at hm
   cases hm;refine (sswap_bad hb hA hS).mono ?_;rintro e w' ⟨rfl,h⟩;exact ⟨rfl,m,hA,h⟩
 rw [jAb hb] at hm;obtain ⟨k,rfl⟩:∃ k:Nat,level=(k:Int):=⟨level.toNat,by omega⟩;have hk:k+1<s.vars.length:=by omega
 simp only [Int.toNat_natCast] at hm;obtain ⟨⟨s0,c0⟩,hcol,hm⟩:=Kw hm;simp only [] at hm;obtain ⟨T,hT,hm⟩:=Kw hm;obtain ⟨hs0,hv0,hl0,ht0⟩:=hs.collect hcol;have hlx:=hlen s0 c0 hcol;have hk0:k+1<s0.vars.length:=by rw [hv0];exact hk
 have hxg:s0.vars[k]?=some (s0.vars.getD k 0):=by rw [yD,yA (by omega)];rfl
 have hyg:s0.vars[k+1]?=some (s0.vars.getD (k+1) 0):=by rw [yD,yA hk0];rfl
 have hxv:s0.vars.getD k 0<s.vars.length:=by rw [hv0];exact (hpm.vl k (by omega)).1
 have hyv:s0.vars.getD (k+1) 0<s.vars.length:=by rw [hv0];exact (hpm.vl (k+1) hk).1
 have hflip:s0.flipLev k={ s0 with vars:=(s0.vars.set k (s0.vars.getD (k+1) 0)).set (k+1) (s0.vars.getD k 0),lev:=(s0.lev.set (s0.vars.getD k 0) (k+1)).set (s0.vars.getD (k+1) 0) k }:=rfl;generalize s0.vars.getD k 0=x at *
 generalize s0.vars.getD (k+1) 0=y at *
 have hx0:x<s0.tabs.length:=by rw [ht0,hpm.tabs];exact hxv
 have hy0:y<s0.tabs.length:=by rw [ht0,hpm.tabs];exact hyv
 have hxl:x<s0.lev.length:=by rw [hl0,hpm.lev];exact hxv
 have hyl:y<s0.lev.length:=by rw [hl0,hpm.lev];exact hyv
 have hn64:s.vars.length<=64:=hpm.le;have hy62:y<4611686018427387904:=by omega
 have hv64:s0.vars.length<=64:=by rw [hv0];exact hn64
 have hl64:s0.lev.length<=64:=by rw [hl0,hpm.lev];exact hn64
 have ht64:s0.tabs.length<=64:=by rw [ht0,hpm.tabs];exact hn64
 have HC:=yH hcol;have HOk:=yH hs.pl;have HT:=yH hT;have Hs0:=yH hs0;have Hm:=yH hm;have Hlx:=yH hlx;have Hxg:=yH hxg;have Hyg:=yH hyg;have Hflip:=yH hflip;obtain ⟨J,lJ,mJ,hSJ,back⟩:=hS.ice;have hR:=hA.read.le mJ;have Hback:=yH back;have HA:=yH hA;obtain ⟨f0,L,P,vV,vL,vT,vC,gs,j0,z1,z2,z3,z4,jv,z5,jV,z6⟩:=hR;obtain ⟨⟨A,c,rfl⟩,z7⟩:=jV;clear z1 z2 z3 z4 z5 z6 z7;have c0b:decide ((k:Int)<0)=false:=by rw [jI];omega
 have c1b:decide ((s.vars.length:Int) - 1<=(k:Int))=false:=by rw [jI];omega
 have c1:¬ (s.vars.length:Int) - 1<=(k:Int):=by omega
 clear hS back hA mJ lJ f0 hm hcol hT hs0 hs hpm hlen hlx hxg hyg hb hl0 ht0 hv0 hxv hyv hflip;have hS:=hSJ;clear hSJ;generalize hnv:s.vars.length=nn at *
 have hkk:(k:Int)+1=((k+1:Nat):Int):=by omega
 generalize hk1:k+1=k1 at *
 go_enter Tryz.func51,Tryz.ntmps51;go_wp2_with (first|(go_at_call 87;(with_reducible refine yI (scollect_any HC.out HOk.out HA.out (Hback.out _ _ hS)) ?_);clear hS;rintro e w ⟨rfl,m0,hA0,hS⟩;have HA0:=yH hA0;clear hA0)|(refine aG ?_)|(refine aL ?_))
 clear j0 jv Hback HA;obtain ⟨J0,l0,lm0,hS0,b0⟩:=hS.ice;have hR0:=HA0.out.read.le lm0;have hpf:PlFit s0.pl:=by obtain ⟨_,_,P,_,_,_,_,_,_,_,mP,_,_,_,_,_,_,hP,_⟩:=HA0.out;exact hP.1
 have htf:=turn_facts hpf HT.out;have HR0:=yH hR0;obtain ⟨f0,L0,P0,vV0,vL0,vT0,vC0,gs0,j0,z1,z2,z3,z4,jv,z5,jV,z6⟩:=hR0;clear z1 z2 z3 z4 z5 z6;obtain ⟨V,cV,rfl,jVx⟩:=jV.2 (by omega);have jx:=jVx k x Hxg.out;have jy:=jVx k1 y Hyg.out;have Hb0:=yH b0;have Htf:=yH htf;have hkv:(k:Int)<(s0.vars.length:Int):=by omega
 have hk1v:(k1:Int)<(s0.vars.length:Int):=by omega
 have hv64i:(s0.vars.length:Int)<=64:=by omega
 have hTl:T.length<=1048577:=jL htf.1 (jL (Hlx.out x) (by decide));clear hS b0 f0 jV jVx htf lm0 l0;refine Qg [[],[0],[0,1],[0,1,2],[0,1,2,3],[0,1,2,3,4],[0,1,2,3,4,5],[],[0,1,2,3,4,5,6,7],[0,1,2,3,4,5,6,7,8],[],[10],[10,11],[10,11,12],[10,11,12,13],[10,11,12,13,14],[10,11,12,13,14,15],[],[17],[10,11,12,13,14,15,16,17,18],[10,11,12,13,14,15,16,17,18,19],[0,1,2,3,4,5,6,7,8,9],[0,1,2,3,4,5,6,7,8,9,10,11,12,13,14,15,16,17,18,19,20,21]] E J0 _
  [fun v _=>v=vPt S,fun v _=>v=vPt S,fun v _=>v=vPt S,fun v _=>v=vPt L0,fun v _=>v=vPt L0,fun v _=>v=vPt L0,fun v _=>v=.slice (some ⟨V,0,none⟩) s0.vars.length cV,fun v _=>v=nv k,fun v _=>v=.pointer (some ⟨V,k,none⟩),fun v _=>v=nv x,fun v _=>v=vPt S,fun v _=>v=vPt S,fun v _=>v=vPt S,fun v _=>v=vPt L0,fun v _=>v=vPt L0,fun v _=>v=vPt L0,fun v _=>v=.slice (some ⟨V,0,none⟩) s0.vars.length cV,fun v _=>v=nv k,fun v _=>v=nv k1,fun v _=>v=.pointer (some ⟨V,k1,none⟩),fun v _=>v=nv y,fun v _=>v=nv x,fun v _=>v=nv y] []
  (fun _ _ _ ns=>ns=ms) (by kernel_rfl) (by kernel_rfl) (by decide) hS0 rfl ?last (fun _ _ _ _ _ _ h=>h) (fun _ _ _ _ _ _ h=>h) ?plain ?step ?fin
 case last=>exact bL
 case plain=>(repeat' (first|exact trivial|apply And.intro)) <;>  (refine .inr ?_;intro s vals J bs w hstop hg hJ hS hG;clear hG;refine bS ?_;intro K HK;(first|(refine bJ ?_)|(go_wp2_with (fail)));exact bO)
 case step=>trivial
 case fin =>
 intro vals J9 bs w hJ hg hS9 hG;have hG:bs=ms:=hG;rw [hG] at hS9;have hS:=hS9.less hJ;clear hJ hS0 hG hS9;simp only [yB,yC,Nat.reduceAdd,Below_,Facts,zH,zI,jGb] at hg;simp only [yB,yC,Nat.reduceAdd,Qb,Qe,Qd,zA,zB,zK,jC,Act.put,zE,zF,zG,hg];refine ⟨?_⟩;clear hg jx jy;go_wp2_with fail
 refine (sturn_any HT.out hx0 (Hlx.out x) hy62 HR0.out hS).mono ?_;clear hS;rintro e w ⟨v,mo,rfl,hO,hS⟩;refine Veil.out ?_;obtain ⟨A7,c7,rfl,_⟩:=hO.shape;obtain ⟨J1,l1,lmo,hS1,bmo⟩:=hS.ice;have HRow:=yH (hO.rowT.le lmo);have HR1:=yH (HR0.out.le l1);have HTB:=yH (fun t ht=>(Htf.out.2 t ht).2);have Hbmo:=yH bmo;have HO:=yH hO;have j01:J1.at S 0=some (vPt L0):=PH.at_le l1 j0;clear hS;have hS:=hS1;refine ⟨?_⟩;clear hS1 bmo hO l1 lmo j0 jv;by_cases hroom:s0.pl.room<s0.wants x T+G.many s0.pl.slots
 . have hm:=Hm.out
   rw [jAa hroom] at hm;injection hm with hm
   injection hm with hm1 hm2
   subst hm1 hm2;have hgt:((s0.pl.room:Nat):Int) - ((G.many s0.pl.slots:Nat):Int)<((s0.wants x T:Nat):Int):=by omega
   have hb1:G.many s0.pl.slots<=4194304:=by have:=G.many_le s0.pl.slots;have:=hpf.len;have:=hpf.room;omega
   have hb2:=hpf.room;clear Hm;go_wp2_with (first|(go_at_call 89;(with_reducible refine yI (swants_any hx0 HR1.out HRow.out hTl HTB.out hS) ?_);clear hS;rintro e w ⟨rfl,hS⟩)|(go_at_call 90;with_reducible refine bC (sroom_any (HR1.out.le hS.ile)) ?_)|(go_at_call 91;with_reducible refine bC (slen_any (HR1.out.le hS.ile)) ?_))
   go_ret;exact ⟨rfl,m0,HA0.out,Hb0.out _ _ ((Hbmo.out _ _ hS).drop)⟩
 have hm:=Hm.out;rw [jAb hroom] at hm;obtain ⟨s1,hturns,hm⟩:=Kw hm;simp only [kC] at hm;obtain ⟨⟨s2,c2⟩,hcol2,hm⟩:=hm;injection hm with hm1 hm2
 subst hm1 hm2;have Htu:=yH hturns;have Hcol2:=yH hcol2;have hle:¬ ((s0.pl.room:Nat):Int) - ((G.many s0.pl.slots:Nat):Int)<((s0.wants x T:Nat):Int):=by omega
 have hle2:decide (((s0.pl.room:Nat):Int) - ((G.many s0.pl.slots:Nat):Int)<((s0.wants x T:Nat):Int))=false:=by rw [jI];exact hle
 have hb1:G.many s0.pl.slots<=4194304:=by have:=G.many_le s0.pl.slots;have:=hpf.len;have:=hpf.room;omega
 have hb2:=hpf.room;clear Hm hturns hcol2;go_wp2_with (first|(go_at_call 89;(with_reducible refine yI (swants_any hx0 HR1.out HRow.out hTl HTB.out hS) ?_);clear hS;rintro e w ⟨rfl,hS⟩)|(go_at_call 90;with_reducible refine bC (sroom_any (HR1.out.le hS.ile)) ?_)|(go_at_call 91;with_reducible refine bC (slen_any (HR1.out.le hS.ile)) ?_)|(refine aL ?_))
 have hc0:=Qn hS.ile j01;have hT1:=(Hb0.out _ _ (Hbmo.out _ _ hS)).perm (List.Perm.swap _ _ _);obtain ⟨J2,l2,lmo,hT2,_⟩:=hT1.ice;have HRow2:=yH (HO.out.rowT.le lmo);obtain ⟨J3,L3,vV3,vL3,mV,mL,ns,l3,k0,kV,kL,hV,hL,hT3,hfin⟩:=HA0.out.openLev hT2;have hL3:L0=L3:=by
  have h2:=Qn hT3.ile k0;rw [hc0] at h2;injection h2 with h2
  injection h2 with h2
  injection h2 with h2
  injection h2
 subst hL3;have Hfin:=yH hfin;have HlI:=yH l2;clear hS hT1 hT2 hfin l2 lmo hc0 j01 k0 l3;have hxg:=Hxg.out;have hyg:=Hyg.out;subst hk1;clear hkk hk1v;refine (lswap_any kV kL hV hL hk0 hxg hyg hxl hyl hv64 hl64 hT3).mono ?_;clear hxg hyg hT3 hV hL kV kL;rintro e w ⟨rfl,mV',mL',hV',hL',hS3⟩;refine Veil.out ?_;have hvle:∀ c ∈ s0.vars,c<=1048576:=by obtain ⟨f,_⟩:=HA0.out;exact f.varb
 have hlle:∀ c ∈ s0.lev,c<=1048576:=by obtain ⟨f,_⟩:=HA0.out;exact f.levb
 obtain ⟨m1,hA1,hS⟩:=Hfin.out mV' mL' _ _ w hV' hL' (by simp) (by simp) (fun c hc=>by
  rcases jZ hc with hc|hc
  . rcases jZ hc with hc|hc
    . exact hvle c hc
    . omega
  . omega) (fun c hc=>by
  rcases jZ hc with hc|hc
  . rcases jZ hc with hc|hc
    . exact hlle c hc
    . omega
  . omega) hS3
 have hA1:StAt S (s0.flipLev k) m1:=by rw [Hflip.out];exact hA1
 have HA1:=yH hA1;have hsn1:Sane (s0.flipLev k):=Hs0.out.of rfl rfl;have hnd1:∀ i,(s0.flipLev k).nd i=s0.nd i:=fun i=>rfl
 have Hsn1:=yH hsn1;have htb1:(s0.flipLev k).tabs.length=s0.tabs.length:=rfl;refine ⟨?_⟩;clear hS3 hV' hL' hA1 hvle hlle Hfin HR1 HRow HTB hnd1 hsn1;generalize hf:s0.flipLev k=sf at *
 have hx1:x<sf.tabs.length:=by omega
 have hy1:y<sf.tabs.length:=by omega
 have hft:sf.tabs.length<=64:=by omega
 have hndT:∀ t ∈ T,sf.nd t.id=some t.n:=fun t ht=>by rw [<- hf];exact (Htf.out.2 t ht).1
 have HndT:=yH hndT;clear hndT hf htb1;have hTi:(T.length:Int)<=1048577:=by omega
 generalize hTn:T.length=n at *
 go_wp2_with fail
 go_loopw [77] (fun v77 wr=>∃ (i:Nat) (mi:PH),i<=n/\v77=.int .i64 (i:Int)/\StAt S (sf.cutAll x (T.take i)) mi/\Sat E J2 (mi::ms) wr) (fun v77 _=>(n - intOf v77).toNat)
 case atStart=>exact ⟨0,m1,jCa _,rfl,by rw [List.take_zero,cutAll_nil sf hx1];exact HA1.out,hS⟩
 case round =>
  clear hS;obtain ⟨i,mi,hin,rfl,hAi,hS⟩:=hrel;have HAi:=yH hAi;clear hAi;by_cases hlt:i<n
  . obtain ⟨t,ht⟩:∃ t,T[i]?=some t:=⟨_,yA (by omega)⟩
    obtain ⟨A8,c8,hv,hcell⟩:=HRow2.out.2 i t ht;injection hv with hv hvl hc
    clear hvl;subst hv hc;have hcell:Cells J2 A8 (i * 9) [nv t.id,nv t.n.v,nv t.n.lo,nv t.n.hi,nv t.n.refs,nv t.ll,nv t.lh,nv t.hl,nv t.hh]:=hcell;have htk:T.take (i+1)=T.take i ++ [t]:=by rw [jP,ht];rfl
    have Htk:=yH htk;have ii:(i:Int)<(n:Int):=by omega
    clear ht htk;go_wp2_with (first|(refine aN 9 ?_;clear hS;intro N9 w hS)|(refine aL ?_)|(refine aS ?_;clear hS;intro w hS))
    obtain ⟨K4,k4,lN9,hS4,bN9⟩:=hS.ice;have hxi:x<(sf.cutAll x (T.take i)).tabs.length:=by show x<(sf.tabs.set x _).length;rw [jK];exact hx1
    have hsl:(sf.cutAll x (T.take i)).tabs.length=sf.tabs.length:=by show (sf.tabs.set x _).length=_;rw [jK]
    obtain ⟨K5,TT,cT,g,tm,ns,k5,iS2,iT,hTb,hS5,hfin⟩:=HAi.out.openTab hxi hS4;rw [hsl] at iS2;have j2:K5.at N9 2=some (nv t.n.lo):=PH.at_le k5 (PH.at_le lN9 (Qc rfl));have j3:K5.at N9 3=some (nv t.n.hi):=PH.at_le k5 (PH.at_le lN9 (Qc rfl));have Hfin:=yH hfin;have HTb:=yH hTb;have HbN9:=yH bN9;have hxi2:(x:Int)<(sf.tabs.length:Int):=by omega
    clear hS hS4 hfin hTb bN9 lN9 k4 k5 hcell;generalize hcut:G.cutT ((sf.cutAll x (T.take i)).tab x) t.n.lo t.n.hi=ct at *
    refine Qg [[],[0],[0,1],[0,1,2],[],[0,1,2,3,4],[0,1,2,3,4,5],[],[7],[7,8],[],[10],[10,11],[0,1,2,3,4,5,6,7,8,9,10,11,12]] E K5 _
     [fun v _=>v=vPt S,fun v _=>v=vPt S,fun v _=>v=.pointer (some ⟨S,2,none⟩),fun v _=>v=.slice (some ⟨TT,0,none⟩) sf.tabs.length cT,fun v _=>v=nv x,fun v _=>v=.pointer (some ⟨TT,x,none⟩),fun v _=>v=vPt g,fun v _=>v=vPt N9,fun v _=>v=.pointer (some ⟨N9,2,none⟩),fun v _=>v=nv t.n.lo,fun v _=>v=vPt N9,fun v _=>v=.pointer (some ⟨N9,3,none⟩),fun v _=>v=nv t.n.hi,fun _ _=>True] [13]
     (set1G _ 0 (fun m'=>TabAt g ct m')) (by kernel_rfl) (by kernel_rfl) (by decide) hS5 rfl ?last (fun _ _ _ _ _ _ h=>h) (fun _ _ _ _ _ _ h=>h) ?plain ?step ?fin
    case last=>exact bL
    case plain=>(repeat' (first|exact trivial|apply And.intro)) <;> first|exact .inl rfl|(refine .inr ?_;intro s vals J bs w hstop hg hJ hS hG;clear hG;refine bS ?_;intro K HK;(first|(refine bJ ?_)|(go_wp2_with (fail)));exact bO)
    case step =>
     refine ⟨trivial,?_⟩;intro vals J bs w hg hJ hS hG;have hG:bs=_:=hG;subst hG;refine bS ?_;intro K HK;go_wp2_with (go_at_call 93;(with_reducible refine yI (tcut_any HTb.out t.n.lo t.n.hi hS) ?_);clear hS;rintro e w ⟨⟨c9,rfl⟩,tm',hT',hS⟩)
     exact HK.out _ _ ⟨rfl,J,_,PH.le.refl _,hS,trivial,tm',by rw [<- hcut];exact hT',rfl⟩
    case fin =>
     intro vals J bs w hJ hg hS hG;obtain ⟨tm',hT',hns⟩:=hG;subst hns;have hS:=hS.less hJ;obtain ⟨m2,hA2,hS2⟩:=Hfin.out tm' _ w hT' hS;have hS2:=(HbN9.out _ _ hS2).drop;rw [<- hcut,cutAll_snoc sf hx1,<- Htk.out] at hA2;have HA2:=yH hA2;simp only [yB,yC,Nat.reduceAdd,Below_,Facts,zH,zI,jGb,jMb] at hg;simp only [yB,yC,Nat.reduceAdd,Qb,Qe,Qd,zA,zB,zK,jC,Act.put,zE,zF,zG,hg];refine ⟨?_⟩;clear hg hS hT' hJ j2 j3 iS2 iT hA2;go_wp2
     exact ⟨⟨i+1,m2,by omega,by go_num,HA2.out,hS2⟩,by simp [intOf];omega⟩
  . have hin2:i=n:=by omega
    subst hin2;have hA2:=HAi.out;rw [jFa (by omega)] at hA2;have HA2:=yH hA2;have hsn2:=Hsn1.out.cutAll x T;have htl2:(sf.cutAll x T).tabs.length=sf.tabs.length:=by show (sf.tabs.set x _).length=_;rw [jK]
    have hnd2:∀ t ∈ T,(sf.cutAll x T).nd t.id=some t.n:=HndT.out;have Hsn2:=yH hsn2;have Hnd2:=yH hnd2;clear hA2 HAi hsn2 hnd2;generalize hsc:sf.cutAll x T=sc at *
    clear hsc;go_wp2_with fail
    go_loopw [98] (fun v98 wr=>∃ (j:Nat) (si:G.St) (mi:PH),j<=i/\v98=.int .i64 (j:Int)/\G.St.turns si x y (T.drop j)=some s1/\Sane si/\si.tabs.length=sf.tabs.length/\(∀ t ∈ T,(si.nd t.id).isSome=true)/\StAt S si mi/\Sat E J2 (mi::ms) wr) (fun v98 _=>(i - intOf v98).toNat)
    case atStart=>exact ⟨0,sc,mi,jCa _,rfl,Htu.out,Hsn2.out,htl2,fun t ht=>by rw [Hnd2.out t ht];rfl,HA2.out,hS⟩
    case round =>
     clear hS;obtain ⟨j,si,mj,hjn,rfl,htu,hsi,hti,hndi,hAj,hS⟩:=hrel;have Htu2:=yH htu;have Hsi:=yH hsi;have Hndi:=yH hndi;have HAj:=yH hAj;clear htu hsi hndi hAj;by_cases hlt2:j<i
     . obtain ⟨t,ht⟩:∃ t,T[j]?=some t:=⟨_,yA (by omega)⟩
       obtain ⟨A8,c8,hv,hcell⟩:=HRow2.out.2 j t ht;injection hv with hv hvl hc
       clear hvl;subst hv hc;have hcell:Cells J2 A8 (j * 9) [nv t.id,nv t.n.v,nv t.n.lo,nv t.n.hi,nv t.n.refs,nv t.ll,nv t.lh,nv t.hl,nv t.hh]:=hcell;have hdrop:T.drop j=t::T.drop (j+1):=by
        have hl:j<T.length:=by omega
        rw [jHa hl];rw [yA hl] at ht;injection ht with ht
        rw [ht]
       have htm:t ∈ T:=jDb ht;have htB:=(Htf.out.2 t htm).2;have htn:=hpf.nd _ _ (G.Pl.nd_some.1 (Htf.out.2 t htm).1).2;have htid:t.id<4194304:=by
        have h1:=(yE.1 (G.Pl.nd_some.1 (Htf.out.2 t htm).1).2).1;have h2:=hpf.len;have h3:=hpf.room;omega
       have htu:=Htu2.out;rw [hdrop] at htu;obtain ⟨sn,hone,hrest⟩:=Kw (show (si.turn1 x y t).bind (fun s'=>G.St.turns s' x y (T.drop (j+1)))=some s1 from htu);obtain ⟨⟨s3,lo⟩,hb1,hone⟩:=Kw hone;simp only [] at hone;obtain ⟨⟨s4,hi⟩,hb2',hone⟩:=Kw hone;simp only [] at hone;obtain ⟨s5,hmo1,hone⟩:=Kw hone;obtain ⟨s6,hmo2,hone⟩:=Kw hone;obtain ⟨s7,hle1,hle3⟩:=Kw hone;obtain ⟨hsa3,hk3,hl3,hlo⟩:=Hsi.out.below hb1 htB.1;obtain ⟨hsa4,hk4,hl4,hhi⟩:=hsa3.below hb2' htB.2.1;have o5:=G.St.more_only _ _ _ _ hmo1;have o6:=G.St.more_only _ _ _ _ hmo2;have hsa6:Sane s6:=hsa4.of (o6.1.trans o5.1) (o6.2.1.trans o5.2.1);have hl6:s6.tabs.length=sf.tabs.length:=by rw [o6.2.1,o5.2.1,hl4,hl3,hti]
       have hnd6:∀ t ∈ T,(s6.nd t.id).isSome=true:=fun t' ht'=>by
        have h1:=Hndi.out t' ht';cases h2:si.nd t'.id with
        | none=>rw [h2] at h1;cases h1
        | some n' =>
          have h3:=hk4 _ _ (hk3 _ _ h2);unfold G.St.nd at h3 ⊢;rw [o6.1,o5.1,h3];rfl
       obtain ⟨old,hold⟩:∃ old,s6.pl.nd t.id=some old:=by
        have:=hnd6 t htm;unfold G.St.nd at this;cases h:s6.pl.nd t.id with
        | none=>rw [h] at this;cases this
        | some o=>exact ⟨o,rfl⟩
       have hpk:=hsa6.pl.put_keep t.id { t.n with v:=y,lo:=lo,hi:=hi };have hsa6p:Sane { s6 with pl:=s6.pl.put t.id { t.n with v:=y,lo:=lo,hi:=hi } }:=⟨hpk.1,fun v e he=>hsa6.tab v e he⟩;have hsa6t:Sane { s6 with pl:=s6.pl.put t.id { t.n with v:=y,lo:=lo,hi:=hi },tabs:=s6.tabs.set y (G.putT (s6.tab y) lo hi t.id) }:=⟨hpk.1,TabLt.set (s:={ s6 with pl:=_ }) hsa6.tab fun e he=>by
        rcases G.mem_putT he with he|he
        . exact hsa6.tab y e he
        . rw [he];exact htid⟩
       have o7:=G.St.less_only _ _ _ _ hle1;have o8:=G.St.less_only _ _ _ _ hle3;have hsan:Sane sn:=hsa6t.of (o8.1.trans o7.1) (o8.2.1.trans o7.2.1);have hln:sn.tabs.length=sf.tabs.length:=by rw [o8.2.1,o7.2.1];simp [hl6]
       have hndn:∀ t' ∈ T,(sn.nd t'.id).isSome=true:=fun t' ht'=>by
        have:=hpk.2 t'.id (hnd6 t' ht');unfold G.St.nd;rw [o8.1,o7.1];exact this
       have hy6:y<s6.tabs.length:=by omega
       have hfitn:Fits { t.n with v:=y,lo:=lo,hi:=hi }:=⟨show y<_ by omega,hlo,hhi,htn.2.2.2⟩;have Hb1:=yH hb1;have Hb2:=yH hb2';have Hmo1:=yH hmo1;have Hmo2:=yH hmo2;have Hle1:=yH hle1;have Hle3:=yH hle3;have Hrest:=yH hrest;have Hsan:=yH hsan;have Hndn:=yH hndn;have Hold:=yH hold;have Hfitn:=yH hfitn;have HTl:=yH Hsi.out.tab;have HTl3:=yH hsa3.tab;have hb11:=htB.1;have hb12:=htB.2.1;have hb13:=htB.2.2.1;have hb14:=htB.2.2.2;have hnlo:=htn.2.1;have hnhi:=htn.2.2.1;have hl3':x<s3.tabs.length:=by omega
       have hli':x<si.tabs.length:=by omega
       have hl6i:(y:Int)<(sf.tabs.length:Int):=by omega
       have ii:(j:Int)<(i:Int):=by omega
       clear ht hdrop htu hrest hone hb1 hb2' hmo1 hmo2 hle1 hle3 hsa3 hk3 hl3 hsa4 hk4 hl4 o5 o6 hsa6 hnd6 hold hpk hsa6p hsa6t o7 o8 hsan hndn hfitn htB htn htm Htu2 Hndi Hsi;go_wp2_with (first|(refine aN 11 ?_;clear hS;intro N w hS)|(refine aL ?_)|(refine aS ?_;clear hS;intro w hS))
       obtain ⟨K4,k4,lN,hS4,bN⟩:=hS.ice;have a5:K4.at N 5=some (nv t.ll):=PH.at_le lN (Qc rfl);have a6:K4.at N 6=some (nv t.lh):=PH.at_le lN (Qc rfl);have a7:K4.at N 7=some (nv t.hl):=PH.at_le lN (Qc rfl);have a8:K4.at N 8=some (nv t.hh):=PH.at_le lN (Qc rfl);have aN:Cells K4 N 0 [nv t.id,nv t.n.v,nv t.n.lo,nv t.n.hi,nv t.n.refs]:=fun q u hq=>by
        have:=((Cells.one N #[nv t.id,nv t.n.v,nv t.n.lo,nv t.n.hi,nv t.n.refs,nv t.ll,nv t.lh,nv t.hl,nv t.hh] 164 (0,0)).le lN) q u (by
         match q,hq with
         | 0,hq=>exact hq
         | 1,hq=>exact hq
         | 2,hq=>exact hq
         | 3,hq=>exact hq
         | 4,hq=>exact hq
         | q+5,hq=>simp at hq)
        exact this
       have HbN:=yH bN;clear hS bN lN hcell k4;refine Qg [[],[],[],[2],[],[4],[0,1,2,3,4,5],[],[],[],[9],[],[11],[0,1,2,3,4,5,6,7,8,9,10,11,12],[0,1,2,3,4,5,6,7,8,9,10,11,12,13],[0,1,2,3,4,5,6,7,8,9,10,11,12,13,14]] E K4 _
        [fun v _=>v=vPt S,fun v _=>v=nv x,fun v _=>v=.pointer (some ⟨N,5,none⟩),fun v _=>v=nv t.ll,fun v _=>v=.pointer (some ⟨N,7,none⟩),fun v _=>v=nv t.hl,fun v _=>v=nv lo,fun v _=>v=vPt S,fun v _=>v=nv x,fun v _=>v=.pointer (some ⟨N,6,none⟩),fun v _=>v=nv t.lh,fun v _=>v=.pointer (some ⟨N,8,none⟩),fun v _=>v=nv t.hh,fun v _=>v=nv hi,fun v _=>v=nv lo,fun v _=>v=nv hi] [6,13]
        (set2G _ 0 0 (fun m'=>StAt S s3 m') (fun m'=>StAt S s4 m')) (by kernel_rfl) (by kernel_rfl) (by decide) hS4 rfl ?last (fun _ _ _ _ _ _ h=>h) (fun _ _ _ _ _ _ h=>h) ?plain ?step ?fin
       case last=>exact bL
       case plain=>(repeat' (first|exact trivial|apply And.intro)) <;> first|exact .inl rfl|(refine .inr ?_;intro s vals J bs w hstop hg hJ hS hG;clear hG;refine bS ?_;intro K HK;(first|(refine bJ ?_)|(go_wp2_with (fail)));exact bO)
       case step =>
        refine ⟨⟨trivial,?_⟩,?_⟩
        . intro vals J bs w hg hJ hS hG
          have hG:bs=_:=hG;subst hG;refine bS ?_;intro K HK;go_wp2_with (go_at_call 94;(with_reducible refine yI (sbelow_any Hb1.out hli' hb11 hb13 HTl.out HAj.out hS) ?_);clear hS;rintro e w ⟨rfl,m',hA',hS⟩)
          exact HK.out _ _ ⟨rfl,J,_,PH.le.refl _,hS,rfl,m',hA',rfl⟩
        . intro vals J bs w hg hJ hS hG
          refine Veil.out ?_;obtain ⟨mm,hmm,hG⟩:=hG;subst hG;refine ⟨?_⟩;refine bS ?_;intro K HK;go_wp2_with (go_at_call 94;(with_reducible refine yI (sbelow_any Hb2.out hl3' hb12 hb14 HTl3.out hmm hS) ?_);clear hS;rintro e w ⟨rfl,m',hA',hS⟩)
          exact HK.out _ _ ⟨rfl,J,_,PH.le.refl _,hS,rfl,mm,m',hmm,hA',rfl⟩
       case fin =>
       intro vals J9 bs w hJ hg hS hG;obtain ⟨_,m4,_,hA4,hns⟩:=hG;subst hns;have hS:=hS.less hJ;simp only [zG] at hS;have HA4:=yH hA4;clear hA4 hJ a5 a6 a7 a8 hS4;simp only [yB,yC,Nat.reduceAdd,Below_,Facts,zH,zI,jGb] at hg;simp only [yB,yC,Nat.reduceAdd,Qb,Qe,Qd,zA,zB,zK,jC,Act.put,zE,zF,zG,hg];refine ⟨?_⟩;clear hg;go_wp2_with fail
       refine (smore_any _ _ _ lo m4 _ _ Hmo1.out hlo HA4.out hS).mono ?_;clear hS;rintro e w ⟨rfl,m5,hA5,hS⟩;have HA5:=yH hA5;clear hA5;go_wp2_with fail
       refine (smore_any _ _ _ hi m5 _ _ Hmo2.out hhi HA5.out hS).mono ?_;clear hS;rintro e w ⟨rfl,m6,hA6,hS⟩;have HA6:=yH hA6;clear hA6;have hS0':=HbN.out _ _ hS;go_wp2_with (first|((with_reducible refine Qp ?_);(refine' ldIN (vs:=[nv t.id,nv t.n.v,nv t.n.lo,nv t.n.hi,nv t.n.refs]) hS rfl rfl ty_agg162 rfl aN Kc ?_);(try simp only [Act.put,zE,zF,zG]))|((with_reducible refine isAllocD 14 ?_);(refine' al (z:=_) hS0' rfl rfl Xh ?_);clear hS hS0' aN;intro O w hS;(try simp only [Value.cells] at hS);(try simp only [Act.put,zE,zF,zG]))|(refine aS ?_;clear hS;intro w hS))
       have hS:=hS.perm (List.Perm.swap _ _ _);obtain ⟨K5,k5,lN,hS5,_⟩:=hS.ice;obtain ⟨K6,k6,lO,hS6,_⟩:=hS5.ice;have o2:K6.at O 2=some (nv t.n.lo):=PH.at_le lO (Qc rfl);have o3:K6.at O 3=some (nv t.n.hi):=PH.at_le lO (Qc rfl);have nid:K6.at N 0=some (nv t.id):=PH.at_le (lN.trans k6) (Qc rfl);have aN:Cells K6 N 0 [nv t.id,nv y,nv lo,nv hi,nv t.n.refs]:=fun q u hq=>by
        have:=((Cells.one N #[nv t.id,nv y,nv lo,nv hi,nv t.n.refs,nv t.ll,nv t.lh,nv t.hl,nv t.hh] 164 (0,0)).le (lN.trans k6)) q u (by
         match q,hq with
         | 0,hq=>exact hq
         | 1,hq=>exact hq
         | 2,hq=>exact hq
         | 3,hq=>exact hq
         | 4,hq=>exact hq
         | q+5,hq=>simp at hq)
        exact this
       have hK6:J2.le K6:=k5.trans k6;have HK6:=yH hK6;obtain ⟨K7,P7,mP,ns7,k7,iS1,hP7,hS7,hfin7⟩:=HA6.out.openPool hS6;have aN7:=aN.le k7;have Hfin7:=yH hfin7;have HP7:=yH hP7;clear hS hS5 hS6 k5 lN lO k6 hfin7 hP7 aN hK6 k7 HbN;refine Qg [[],[0],[0,1],[0,1,2],[],[4],[0,1,2,3,4,5]] E K7 _
        [fun v _=>v=vPt S,fun v _=>v=vPt S,fun v _=>v=.pointer (some ⟨S,1,none⟩),fun v _=>v=vPt P7,fun v _=>v=vPt N,fun v _=>v=ndA t.id { t.n with v:=y,lo:=lo,hi:=hi },fun _ _=>True] [6]
        (set1G _ 0 (fun m'=>PoolAt P7 (s6.pl.put t.id { t.n with v:=y,lo:=lo,hi:=hi }) m')) (by kernel_rfl) (by kernel_rfl) (by decide) hS7 rfl ?last (fun _ _ _ _ _ _ h=>h) (fun _ _ _ _ _ _ h=>h) ?plain ?step ?fin
       case last=>exact bL
       case plain=>(repeat' (first|exact trivial|apply And.intro)) <;> first|exact .inl rfl|(refine .inr ?_;intro s vals J bs w hstop hg hJ hS hG;clear hG;refine bS ?_;intro K HK;(first|(refine bJ ?_)|(go_wp2_with (fail)));exact bO)
       case step =>
        refine ⟨trivial,?_⟩;intro vals J bs w hg hJ hS hG;have hG:bs=_:=hG;subst hG;refine bS ?_;intro K HK;go_wp2_with (go_at_call 96;(with_reducible refine yI (pset_any _ _ _ _ _ P7 s6.pl t.id { t.n with v:=y,lo:=lo,hi:=hi } old Hold.out Hfitn.out HP7.out hS) ?_);clear hS;rintro e w ⟨rfl,mP',hP',hS⟩)
        exact HK.out _ _ ⟨rfl,J,_,PH.le.refl _,hS,trivial,mP',hP',rfl⟩
       case fin =>
       intro vals J9 bs w hJ hg hS hG;obtain ⟨mP',hP',hns⟩:=hG;subst hns;have hS:=hS.less hJ;obtain ⟨m8,hA8,hS8⟩:=Hfin7.out mP' _ w hP' hS;simp only [yB,yC,Nat.reduceAdd,Below_,Facts,zH,zI,jGb,jMb] at hg;simp only [yB,yC,Nat.reduceAdd,Qb,Qe,Qd,zA,zB,zK,jC,Act.put,zE,zF,zG,hg];refine ⟨?_⟩;clear hg hS hP' hJ iS1 aN7 Hfin7 hS7;have hy8:y<({ s6 with pl:=s6.pl.put t.id { t.n with v:=y,lo:=lo,hi:=hi } }:G.St).tabs.length:=hy6;obtain ⟨K8,T8,cT8,g8,tm8,ns8,k8,iS8,iT8,hTb8,hS9,hfin8⟩:=hA8.openTab hy8 hS8;have iS8:K8.at S 2=some (.slice (some ⟨T8,0,none⟩) s6.tabs.length cT8):=iS8;rw [hl6] at iS8;have hTb8:TabAt g8 (s6.tab y) tm8:=hTb8;have nid8:=PH.at_le k8 nid;have Hfin8:=yH hfin8;have HTb8:=yH hTb8;clear hfin8 hTb8 hS8 hA8 k8 hy8 nid;go_wp2_with fail
       refine Qg [[],[0],[0,1],[0,1,2],[],[0,1,2,3,4],[0,1,2,3,4,5],[],[],[],[9],[9,10],[0,1,2,3,4,5,6,7,8,9,10,11]] E K8 _
        [fun v _=>v=vPt S,fun v _=>v=vPt S,fun v _=>v=.pointer (some ⟨S,2,none⟩),fun v _=>v=.slice (some ⟨T8,0,none⟩) sf.tabs.length cT8,fun v _=>v=nv y,fun v _=>v=.pointer (some ⟨T8,y,none⟩),fun v _=>v=vPt g8,fun v _=>v=nv lo,fun v _=>v=nv hi,fun v _=>v=vPt N,fun v _=>v=vPt N,fun v _=>v=nv t.id,fun _ _=>True] [12]
        (set1G _ 0 (fun m'=>TabAt g8 (G.putT (s6.tab y) lo hi t.id) m')) (by kernel_rfl) (by kernel_rfl) (by decide) hS9 rfl ?last (fun _ _ _ _ _ _ h=>h) (fun _ _ _ _ _ _ h=>h) ?plain ?step ?fin
       case last=>exact bL
       case plain=>(repeat' (first|exact trivial|apply And.intro)) <;> first|exact .inl rfl|(refine .inr ?_;intro s vals J bs w hstop hg hJ hS hG;clear hG;refine bS ?_;intro K HK;(first|(refine bJ ?_)|(go_wp2_with (fail)));exact bO)
       case step =>
        refine ⟨trivial,?_⟩;intro vals J bs w hg hJ hS hG;have hG:bs=_:=hG;subst hG;refine bS ?_;intro K HK;go_wp2_with (go_at_call 97;(with_reducible refine yI (tput_any HTb8.out lo hi t.id hS) ?_);clear hS;rintro e w ⟨⟨c9,rfl⟩,tm',hT',hS⟩)
        exact HK.out _ _ ⟨rfl,J,_,PH.le.refl _,hS,trivial,tm',hT',rfl⟩
       case fin =>
       intro vals J9 bs w hJ hg hS hG;obtain ⟨tm',hT',hns⟩:=hG;subst hns;have hS:=hS.less hJ;obtain ⟨m9,hA9,hS9'⟩:=Hfin8.out tm' _ w hT' hS;have HA9:=yH hA9;simp only [yB,yC,Nat.reduceAdd,Below_,Facts,zH,zI,jGb,jMb] at hg;simp only [yB,yC,Nat.reduceAdd,Qb,Qe,Qd,zA,zB,zK,jC,Act.put,zE,zF,zG,hg];refine ⟨?_⟩;clear hg hS hT' hJ iS8 iT8 nid8 Hfin8 hA9 hS9;have hS:=hS9';clear hS9';go_wp2_with (first|(refine aL ?_))
       refine (sless_any _ _ _ t.n.lo m9 _ _ Hle1.out hnlo HA9.out hS).mono ?_;clear hS;rintro e w ⟨rfl,m10,hA10,hS⟩;have HA10:=yH hA10;clear hA10;go_wp2_with (first|(refine aL ?_))
       refine (sless_any _ _ _ t.n.hi m10 _ _ Hle3.out hnhi HA10.out hS).mono ?_;clear hS;rintro e w ⟨rfl,m11,hA11,hS⟩;have HA11:=yH hA11;clear hA11;go_wp2_with fail
       exact ⟨⟨j+1,sn,m11,by omega,by go_num,Hrest.out,Hsan.out,hln,Hndn.out,HA11.out,hS.less HK6.out⟩,by simp [intOf];omega⟩
     . have hji:j=i:=by omega
       subst hji;have htu:=Htu2.out;rw [jYb (by omega)] at htu;injection htu with htu
       subst htu;go_wp2_with fail
       refine (scollect_any Hcol2.out Hsi.out.pl HAj.out hS).mono ?_;clear hS;rintro e w ⟨rfl,m9,hA9,hS⟩;have HA9:=yH hA9;clear hA9;go_wp2_with fail
       go_ret;exact ⟨rfl,m9,HA9.out,hS.less HlI.out⟩
end
end Go.Proofs.YtidamcdklgfogaaGreatDoor
