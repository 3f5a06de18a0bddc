import Derived.Test.YtdhkkkhnjooioaaGreatZam
set_option linter.unusedSimpArgs false
set_option linter.unusedVariables false
namespace Go.Proofs.YtdhkkkhnjooioaaGreat
open Go.RowKit
set_option maxRecDepth 100000 in
set_option maxHeartbeats 4000000 in
theorem sadd_none {E w:World} {I m:PH} {ms:List PH} {S:Nat} {s:G.St} {v lo hi:Nat} (ha:s.add v lo hi=some none) (hA:StAt S s m) (hS:Sat E I (m::ms) w) :
 Calls Tryz.prog 47 #[vPt S,nv v,nv lo,nv hi] w fun e w'=>e=.returned (.tuple #[nv 0,.int .i64 7])∧∃ m',StAt S s m'∧Sat E I (m'::ms) w':=by
 obtain ⟨h0,L,P,vV,vL,vT,vC,gs,mV,mL,mP,mT,mC,tms,hbd,hV,hL,hP,hT,hC,hgs,htm,htab⟩:=hA
 have hS:=Sat.unpack hbd hS
 simp only [List.cons_append] at hS
 have ht:s.pl.take ⟨v,lo,hi,0⟩=some none:=by
  unfold G.St.add at ha
  cases ht:s.pl.take ⟨v,lo,hi,0⟩ with
  | none=>rw [ht] at ha;cases ha
  | some o =>
    cases o with
    | none=>rfl
    | some q=>obtain ⟨p,id⟩:=q;rw [ht] at ha;simp only [] at ha;split at ha <;> cases ha
 have HT:=Lib.hid ht
 have Hfin:=Lib.hid (fun w' (h:Sat E I (PH.one S (.cells #[vPt L,vPt P,vT,vC,nv s.dead] 64)::PH.one L (.cells #[vV,vL] 61)::mV::mL::mP::mT::mC::(tms ++ ms)) w')=>StAt.close h0 hV hL hP hT hC hgs htm htab h)
 have HP:=Lib.hid hP
 clear hbd hT hC hV hL h0 hP ht ha
 go_enter Tryz.func47,Tryz.ntmps47
 go_wp2_with (first|(go_at_call 75;(with_reducible refine Calls.mono (ptake_none (n:=⟨v,lo,hi,0⟩) HT.out HP.out (hS.pick 4 rfl)) ?_);clear hS;rintro e w ⟨rfl,hS⟩)|((with_reducible refine atList ?_);  ((with_reducible refine isLoad ?_);( (refine ld1 0 hS rfl rfl ?ha rfl rfl rfl ?_;(case ha =>  exact ty_agg55 )) );(try simp only [Act.put,zE,zF,zG])) ))
 go_ret2
 exact ⟨rfl,Hfin.out _ (hS.back 4 rfl)⟩
set_option maxRecDepth 100000 in
set_option maxHeartbeats 4000000 in
theorem sadd_some {E w:World} {I m:PH} {ms:List PH} {S:Nat} {s s':G.St} {v lo hi id:Nat} (ha:s.add v lo hi=some (some (s',id))) (hlo:lo<4611686018427387904) (hhi:hi<4611686018427387904) (hA:StAt S s m) (hS:Sat E I (m::ms) w) :
 Calls Tryz.prog 47 #[vPt S,nv v,nv lo,nv hi] w fun e w'=>e=.returned (.tuple #[nv id,.int .i64 0])∧∃ m',StAt S s' m'∧Sat E I (m'::ms) w':=by
 obtain ⟨h0,L,P,vV,vL,vT,vC,gs,mV,mL,mP,mT,mC,tms,hbd,hV,hL,hP,hT,hC,hgs,htm,htab⟩:=hA
 have hS:=Sat.unpack hbd hS
 simp only [List.cons_append] at hS
 obtain ⟨p',ht,hv,hid,hdead,hs'⟩:∃ p',s.pl.take ⟨v,lo,hi,0⟩=some (some (p',id))∧v<s.tabs.length∧id<4194304∧s.dead<4611686018427387904∧s'={ s with pl:=p',cnt:=(s.cnt ++ List.replicate (id+1 - s.cnt.length) 0).set id 0,dead:=s.dead+1,tabs:=s.tabs.set v (G.putT (s.tab v) lo hi id) }:=by
  unfold G.St.add at ha
  cases ht:s.pl.take ⟨v,lo,hi,0⟩ with
  | none=>rw [ht] at ha;cases ha
  | some o =>
    cases o with
    | none=>rw [ht] at ha;cases ha
    | some q =>
      obtain ⟨p,i⟩:=q
      rw [ht] at ha
      simp only [] at ha
      split at ha
      · rename_i hc
        injection ha with ha;injection ha with ha;injection ha with h1 h2
        subst h2
        exact ⟨p,rfl,hc.1,hc.2.1,hc.2.2,h1.symm⟩
      · cases ha
 have hfit:Fits ⟨v,lo,hi,0⟩:=⟨show v<4611686018427387904 by have:=h0.tabs;omega,hlo,hhi,show (0:Nat)<4611686018427387905 by decide⟩
 obtain ⟨T,cT,rfl,_⟩:=hT.ptr (by omega)
 obtain ⟨AC,cC,rfl,_⟩:=hC.shape
 have hg:=List.getElem?_eq_getElem (l:=gs) (i:=v) (by omega)
 have htt:=List.getElem?_eq_getElem (l:=s.tabs) (i:=v) hv
 have htb:s.tabs[v]=s.tab v:=by unfold G.St.tab;rw [List.getD_eq_getElem?_getD,htt];rfl
 have htv:=List.getElem?_eq_getElem (l:=tms) (i:=v) (by omega)
 have hTab:=htab v _ _ _ hg htt htv
 rw [htb] at hTab
 have iT:Cells mT T v (ptC gs[v]):=by
  have:=flat_cells ptC_len hT hg
  rwa [Nat.mul_one] at this
 generalize gs[v]=g at *
 generalize tms[v]=tm at *
 have hvn:v<64:=by have:=h0.tabs;omega
 have hfin:∀ (p'':G.Pl) (k:Nat) (vC':Value) (mP' mC' tm':PH) (w':World),p''=p'→k=id+1 - s.cnt.length→PoolAt P p'' mP'→TabAt g (G.putT (s.tab v) lo hi id) tm'→OwnP mC' 3 1 vC' (s.cnt.length+k) (((s.cnt ++ List.replicate k 0).set id 0).flatMap ivC) →
  Sat E I (mP'::PH.one S (.cells #[vPt L,vPt P,.slice (some ⟨T,0,none⟩) s.tabs.length cT,vC',.int .i64 ((s.dead:Int)+1)] 64)::PH.one L (.cells #[vV,vL] 61)::mV::mL::mT::mC'::(tms.set v tm' ++ ms)) w'→∃ m',StAt S s' m'∧Sat E I (m'::ms) w':=by
  rintro _ _ vC' mP' mC' tm' w' rfl rfl hP' ht' hC' hS'
  have h1:=hS'.perm (List.perm_middle (l₁:=[_,_,_,_]) (l₂:=mT::mC'::(tms.set v tm' ++ ms)) (a:=mP')).symm
  subst hs'
  have hcl:((s.cnt ++ List.replicate (id+1 - s.cnt.length) 0).set id 0).length=s.cnt.length+(id+1 - s.cnt.length):=by simp
  refine StAt.close (L:=L) (P:=P) (vV:=vV) (vL:=vL) (vT:=.slice (some ⟨T,0,none⟩) s.tabs.length cT) (vC:=vC') (mV:=mV) (mL:=mL) (mP:=mP') (mT:=mT) (mC:=mC') (gs:=gs) (tms:=tms.set v tm') ⟨h0.vars,h0.lev,by simpa using h0.tabs,by rw [hcl];have:=h0.cnt;omega,fun c hc=>?_,show s.dead+1≤4611686018427387904 by omega,h0.levb,h0.varb⟩ hV hL hP' (by simpa using hT) (by rw [hcl];exact hC') (by simpa using hgs) (by simpa using htm) (fun x gx t tmx e1 e2 e3=>?_) ?_
  · rcases List.mem_or_eq_of_mem_set hc with hc|hc
    · rcases List.mem_append.1 hc with hc|hc
      · exact h0.cntb c hc
      · rw [List.eq_of_mem_replicate hc];decide
    · rw [hc];decide
  · by_cases hx:x=v
    · subst hx
      have e2':(s.tabs.set x (G.putT (s.tab x) lo hi id))[x]?=some t:=e2
      rw [List.getElem?_set_self hv] at e2'
      rw [List.getElem?_set_self (by omega)] at e3
      rw [hg] at e1
      cases e1;cases e2';cases e3
      exact ht'
    · have e2':(s.tabs.set v (G.putT (s.tab v) lo hi id))[x]?=some t:=e2
      rw [List.getElem?_set_ne (fun e=>hx e.symm)] at e2' e3
      exact htab x gx t tmx e1 e2' e3
  · simpa [nv] using h1
 have Hfin:=Lib.hid hfin
 have HT:=Lib.hid ht
 have HTb:=Lib.hid hTab
 have HP:=Lib.hid hP
 have Hfit:=Lib.hid hfit
 have HC:=Lib.hid hC
 have HiT:=Lib.hid iT
 have htm7:∀ (a b c d e f x:PH),(a::b::c::d::e::f::x::(tms ++ ms))[7+v]?=some tm:=fun a b c d e f x=>by
  rw [show 7+v=v+1+1+1+1+1+1+1 by omega]
  simp only [zA]
  rw [List.getElem?_append_left (by omega)]
  exact htv
 have Htm:=Lib.hid htm7
 have hset:∀ (a b c d e f x tm':PH),(a::b::c::d::e::f::x::(tms ++ ms)).set (7+v) tm'=a::b::c::d::e::f::x::(tms.set v tm' ++ ms):=fun a b c d e f x tm'=>by
  rw [show 7+v=v+1+1+1+1+1+1+1 by omega]
  simp only [zF]
  rw [List.set_append_left _ _ (by omega)]
 have Hset:=Lib.hid hset
 have hcl:=h0.cnt
 clear hfin hbd hT hC hV hL h0 hP ht ha hs' hfit hTab iT htab htm htt htb htv hg hgs hset htm7
 go_enter Tryz.func47,Tryz.ntmps47
 go_wp2_with (first|(go_at_call 75;(with_reducible refine Calls.mono (ptake_some (n:=⟨v,lo,hi,0⟩) HT.out Hfit.out HP.out (hS.pick 4 rfl)) ?_);clear hS;rintro e w ⟨rfl,mP',hP',hS⟩;have HP':=Lib.hid hP';clear hP';simp only [List.eraseIdx_cons_succ,List.eraseIdx_cons_zero] at hS)|((with_reducible refine atList ?_);  ((with_reducible refine isLoad ?_);( (refine ld1 0 hS rfl rfl ?ha rfl rfl rfl ?_;(case ha =>  exact ty_agg55 )) );(try simp only [Act.put,zE,zF,zG])) ))
 generalize hn:s.cnt.length=n at *
 go_loopw [] (fun wr=>∃ (k:Nat) (vC':Value) (mC':PH),(n+k≤n∨n+k≤id+1)∧OwnP mC' 3 1 vC' (n+k) ((s.cnt ++ List.replicate k 0).flatMap ivC)∧Sat E I (mP'::PH.one S (.cells #[vPt L,vPt P,.slice (some ⟨T,0,none⟩) s.tabs.length cT,vC',nv s.dead] 64)::PH.one L (.cells #[vV,vL] 61)::mV::mL::mT::mC'::(tms ++ ms)) wr) (fun wr=>id+1 - rowLen wr S)
 case atStart=>exact ⟨0,_,mC,.inl (by omega),by simpa using HC.out,hS⟩
 case round =>
  clear hS
  obtain ⟨k,vC',mC',hk,hC',hS⟩:=hrel
  obtain ⟨A',c',rfl,_⟩:=hC'.shape
  have HC':=Lib.hid hC'
  clear hC'
  have hrow:rowLen wr S=n+k:=by
   exact rowLen_of ((hS.cell_of (.tail _ (.head _)) 3).trans rfl)
  rw [hrow]
  by_cases hlt:n+k≤id
  · have hlt':decide (((n+k:Nat):Int)≤(id:Int))=true:=by rw [decide_eq_true_eq];omega
    generalize hnk:n+k=nk at *
    go_wp2_with (first|((with_reducible refine isAppend ?_);(refine' apP (p:=_) (m:=_) (v:=_) (n:=_) (xs:=_) (news:=_) 7 (.inr (List.Mem.head _)) hS rfl rfl rfl Tryz.underlying28 int_info rfl (by decide) rfl HC'.out rfl ?hl ?hcl ?h1 ?h63 ?hby ?_);(case hcl=>exact Cells.one _ _ _ _);(case hl=>rfl);(case h1=>rfl);(case h63=>(unfold maxLen;omega));(case hby=>omega);clear hS;intro v1 m1 w hO1 hS;refine Veil.out ?_;obtain ⟨A1,c1,rfl,_⟩:=OwnP.shape hO1;refine ⟨?_⟩;have HO1:=Lib.hid hO1;clear hO1;(try simp only [zF,zG] at hS);(try simp only [Act.put,zE,zF,zG]))|((with_reducible refine atList ?_);first|((with_reducible refine isLoad ?_);( (refine ld1 1 hS rfl rfl ?ha rfl rfl rfl ?_;(case ha =>  exact ty_agg28 )) );(try simp only [Act.put,zE,zF,zG]))|((with_reducible refine isStore ?_);( (refine st1 2 hS rfl rfl rfl rfl rfl ?ha rfl rfl ?hb ?_;(case ha =>  exact ty_sz28);(case hb=>(simp;done))));clear hS;intro w hS;(try simp only [zF,zG,zE,Act.eval,zD,zC,zA,zB,zJ] at hS);(try simp only [Act.put]))|((with_reducible refine isBuildSlice ?_);(refine' bsl hS ?hr ?_);(case hr=>(intro w0;go_simp;rfl));clear hS;intro XS w hS;(try simp only [Act.eval,zD,zC,zA,zB,zJ,Value.cells] at hS);(try simp only [Act.put,zE,zF,zG]))))
    have hS:=hS.drop
    refine ⟨⟨k+1,_,m1,.inr (by omega),?_,hS⟩,?_⟩
    · have:=HO1.out
      rw [show n+(k+1)=nk+1 by omega,List.replicate_succ',← List.append_assoc,List.flatMap_append]
      exact this
    · have:rowLen w S=nk+1:=by
       exact rowLen_of ((hS.cell_of (.tail _ (.head _)) 3).trans rfl)
      omega
  · have hlt':decide (((n+k:Nat):Int)≤(id:Int))=false:=by rw [decide_eq_false_iff_not];omega
    have hkk:k=id+1 - n:=by omega
    have hidl:id<n+k:=by omega
    obtain ⟨X,cX,hX,_⟩:=HC'.out.ptr (by omega)
    injection hX with hX _ hX2
    subst hX hX2
    generalize hnk:n+k=nk at *
    have hi2:(id:Int)<(nk:Int):=by omega
    go_wp2_with (first|((with_reducible refine isStore ?_);(refine st_row 6 hS rfl rfl rfl rfl rfl HC'.out (Nat.mul_one id).symm hidl ty_sz3 rfl (iv_one 0) ?_);clear hS;intro mC2 w hC2 hS;have HC2:=Lib.hid hC2;clear hC2;(try simp only [zF,zG] at hS);(try simp only [Act.put]))|((with_reducible refine isLoad ?_);(refine' ldP1 (v:=vPt g) (.inr (List.Mem.tail _ (List.Mem.tail _ (List.Mem.tail _ (List.Mem.tail _ (List.Mem.tail _ (List.Mem.head _))))))) hS rfl rfl ty_agg65 rfl (HiT.out.at 0 rfl) ?_);(try simp only [Act.put,zE,zF,zG]))|(go_at_call 59;(with_reducible refine Calls.mono (tput_any HTb.out lo hi id (hS.pick (7+v) (Htm.out _ _ _ _ _ _ _))) ?_);clear hS;rintro e w ⟨⟨c9,rfl⟩,tm',hT',hS⟩;have HT':=Lib.hid hT';clear hT')|((with_reducible refine atList ?_);first|((with_reducible refine isLoad ?_);( (refine ld1 1 hS rfl rfl ?ha rfl rfl rfl ?_;(case ha=>first|exact ty_agg3|exact ty_agg28|exact ty_agg62 )) );(try simp only [Act.put,zE,zF,zG]))|((with_reducible refine isStore ?_);( (refine st1 1 hS rfl rfl rfl rfl rfl ?ha rfl rfl ?hb ?_;(case ha =>  exact ty_sz3 );(case hb=>(simp;done))));clear hS;intro w hS;(try simp only [zF,zG,zE,Act.eval,zD,zC,zA,zB,zJ] at hS);(try simp only [Act.put]))))
    go_ret2
    have hS2:=hS.back (7+v) (Htm.out _ _ _ _ _ _ _)
    rw [Hset.out] at hS2
    refine ⟨rfl,Hfin.out _ k _ _ _ _ _ rfl hkk HP'.out HT'.out ?_ hS2⟩
    have:=HC2.out
    rw [← flat_set ivC_len _ _ (by simp;omega)]
    rw [Nat.mul_one,hnk]
    exact this
end Go.Proofs.YtdhkkkhnjooioaaGreat
namespace Go.Proofs.YtdhkkkhnjooioaaGreat
open Go.RowKit
theorem sis_any {w:World} {S:Nat} {s:G.St} (h:StR (heapOf w) S s) (f:Int) (hf:f<9223372036854775808):Calls Tryz.prog 37 #[vPt S,.int .i64 f] w fun e w'=>e=.returned (.bool (s.is f))∧Below w.heap.size w w':=by
 by_cases h0:f<0
 · have:s.is f=false:=by unfold G.St.is;rw [decide_eq_false (by omega)];rfl
   rw [this]
   refine (sis_neg f h0).mono ?_
   rintro e w' ⟨rfl,rfl⟩
   exact ⟨rfl,Below.refl _ w⟩
 · obtain ⟨n,rfl⟩:∃ n:Nat,f=(n:Int):=⟨f.toNat,by omega⟩
   exact sis_nat h n (by omega)
theorem is_lt {s:G.St} (hp:PlFit s.pl) {f:Nat} (h:s.is (f:Int)=true):f<4194304:=by
 have h1:=hp.len
 have h2:=hp.room
 unfold G.St.is at h
 simp only [Int.toNat_natCast,Bool.and_eq_true,Bool.or_eq_true,beq_iff_eq] at h
 rcases h.2 with h|h
 · omega
 · have:=G.Pl.nd_lt (p:=s.pl) h
   omega
def TabLt (s:G.St):Prop:=∀ v,∀ e ∈ s.tab v,e.id<4194304
theorem find_mem {t:List G.Ent} {lo hi id:Nat} (h:G.findT t lo hi=some id):∃ e ∈ t,e.id=id:=by
 unfold G.findT at h
 cases hf:t.find? (fun e=>e.lo == lo && e.hi == hi) with
 | none=>rw [hf] at h;cases h
 | some e=>rw [hf] at h;injection h with h;exact ⟨e,List.mem_of_find?_eq_some hf,h⟩
theorem norm_eq (lo hi:Nat):G.norm lo hi=(G.flipIf lo (hi % 2 == 1),G.flipIf hi (hi % 2 == 1),(hi % 2 == 1)):=by
 unfold G.norm G.flipIf
 rcases Nat.mod_two_eq_zero_or_one hi with h|h <;> simp [h]
set_option maxRecDepth 100000 in
set_option maxHeartbeats 4000000 in
theorem smk_any {E w:World} {I m:PH} {ms:List PH} {S:Nat} {s s':G.St} {v lo hi:Int} {r er:Nat} (hm:s.mkE v lo hi=some (s',r,er)) (hlo:lo<9223372036854775808) (hhi:hi<9223372036854775808) (hT:TabLt s) (hA:StAt S s m) (hS:Sat E I (m::ms) w) :
 Calls Tryz.prog 10 #[vPt S,.int .i64 v,.int .i64 lo,.int .i64 hi] w fun e w'=>e=.returned (.tuple #[nv r,nv er])∧∃ m',StAt S s' m'∧Sat E I (m'::ms) w':=by
 have hp:PlFit s.pl:=by obtain ⟨_,_,P,_,_,_,_,_,_,_,mP,_,_,_,_,_,_,hP,_⟩:=hA;exact hP.1
 obtain ⟨J,lJ,mJ,hS,back⟩:=hS.ice
 have hR:=hA.read.le mJ
 have Hback:=Lib.hid back
 have HA:=Lib.hid hA
 have HL:=Lib.hid (fun (w':World) (hle:J.le (heapOf w'))=>slevel_any (hR.le hle) v)
 have HI1:=Lib.hid (fun (w':World) (hle:J.le (heapOf w'))=>sis_any (hR.le hle) lo hlo)
 have HI2:=Lib.hid (fun (w':World) (hle:J.le (heapOf w'))=>sis_any (hR.le hle) hi hhi)
 have HR:=Lib.hid hR
 clear back hA hR mJ lJ
 unfold G.St.mkE at hm
 by_cases c1:s.level v<0
 · rw [if_pos c1] at hm
   cases hm
   clear HI1 HI2 HR hp
   go_enter Tryz.func10,Tryz.ntmps10
   go_wp2_with ( (go_at_call 43;(with_reducible refine Calls.mono (HL.out _ hS.ile) ?_);rintro e w ⟨rfl,rfl⟩) )
   go_ret2
   exact ⟨rfl,m,HA.out,Hback.out _ _ hS⟩
 rw [if_neg c1] at hm
 cases b1:s.is lo with
 | false =>
   rw [b1] at hm HI1
   cases hm
   clear HI2 HR hp
   go_enter Tryz.func10,Tryz.ntmps10
   go_wp2_with (first|(go_at_call 43;(with_reducible refine Calls.mono (HL.out _ hS.ile) ?_);rintro e w ⟨rfl,rfl⟩)|(go_at_call 37;  ((with_reducible refine Calls.mono (HI1.out _ hS.ile) ?_);rintro e w ⟨rfl,hb⟩;replace hS:=hS.below_ hb;clear hb) ) )
   go_ret2
   exact ⟨rfl,m,HA.out,Hback.out _ _ hS⟩
 | true =>
 cases b2:s.is hi with
 | false =>
   rw [b1,b2] at hm
   rw [b1] at HI1
   rw [b2] at HI2
   cases hm
   clear HR hp
   go_enter Tryz.func10,Tryz.ntmps10
   go_wp2_with (first|(go_at_call 43;(with_reducible refine Calls.mono (HL.out _ hS.ile) ?_);rintro e w ⟨rfl,rfl⟩)|(go_at_call 37;first|((with_reducible refine Calls.mono (HI1.out _ hS.ile) ?_);rintro e w ⟨rfl,hb⟩;replace hS:=hS.below_ hb;clear hb)|((with_reducible refine Calls.mono (HI2.out _ hS.ile) ?_);rintro e w ⟨rfl,hb⟩;replace hS:=hS.below_ hb;clear hb))|((with_reducible refine atList ?_);  ((with_reducible refine isGuard ?_);  ((with_reducible refine guarded_yes ?hw ?_);case hw=>(simp only [Region.wanted,yielded,zC,zA,zB,zK,beq_self_eq_true];done)) ) ))
   go_ret2
   exact ⟨rfl,m,HA.out,Hback.out _ _ hS⟩
 | true =>
 rw [b1,b2] at hm
 simp only [Bool.and_self,Bool.not_true,Bool.false_eq_true,if_false] at hm
 obtain ⟨a,rfl⟩:∃ a:Nat,lo=(a:Int):=⟨lo.toNat,by have:0≤lo:=by { unfold G.St.is at b1;simp only [Bool.and_eq_true,decide_eq_true_eq] at b1;exact b1.1 };omega⟩
 obtain ⟨b,rfl⟩:∃ b:Nat,hi=(b:Int):=⟨hi.toNat,by have:0≤hi:=by { unfold G.St.is at b2;simp only [Bool.and_eq_true,decide_eq_true_eq] at b2;exact b2.1 };omega⟩
 have hA1:=is_lt hp b1
 have hB1:=is_lt hp b2
 have hA2:a<4611686018427387904:=by omega
 have hB2:b<4611686018427387904:=by omega
 clear hlo hhi
 rw [b1] at HI1
 rw [b2] at HI2
 simp only [Int.toNat_natCast] at hm
 have HU1:=Lib.hid (fun (w':World) (hle:J.le (heapOf w'))=>sunder_any (HR.out.le hle) a (s.level v) (by omega))
 have HU2:=Lib.hid (fun (w':World) (hle:J.le (heapOf w'))=>sunder_any (HR.out.le hle) b (s.level v) (by omega))
 cases u1:s.under a (s.level v) with
 | false =>
   rw [u1] at hm HU1
   cases hm
   clear HU2 HR hp
   go_enter Tryz.func10,Tryz.ntmps10
   go_wp2_with (first|(go_at_call 43;(with_reducible refine Calls.mono (HL.out _ hS.ile) ?_);rintro e w ⟨rfl,rfl⟩)|(go_at_call 37;first|((with_reducible refine Calls.mono (HI1.out _ hS.ile) ?_);rintro e w ⟨rfl,hb⟩;replace hS:=hS.below_ hb;clear hb)|((with_reducible refine Calls.mono (HI2.out _ hS.ile) ?_);rintro e w ⟨rfl,hb⟩;replace hS:=hS.below_ hb;clear hb))|(go_at_call 44;  ((with_reducible refine Calls.mono (HU1.out _ hS.ile) ?_);rintro e w ⟨rfl,hb⟩;replace hS:=hS.below_ hb;clear hb) )|((with_reducible refine atList ?_);  ((with_reducible refine isGuard ?_);  ((with_reducible refine guarded_yes ?hw ?_);case hw=>(simp only [Region.wanted,yielded,zC,zA,zB,zK,beq_self_eq_true];done)) ) ))
   go_ret2
   exact ⟨rfl,m,HA.out,Hback.out _ _ hS⟩
 | true =>
 cases u2:s.under b (s.level v) with
 | false =>
   rw [u1,u2] at hm
   rw [u1] at HU1
   rw [u2] at HU2
   cases hm
   clear HR hp
   go_enter Tryz.func10,Tryz.ntmps10
   go_wp2_with (first|(go_at_call 43;(with_reducible refine Calls.mono (HL.out _ hS.ile) ?_);rintro e w ⟨rfl,rfl⟩)|(go_at_call 37;first|((with_reducible refine Calls.mono (HI1.out _ hS.ile) ?_);rintro e w ⟨rfl,hb⟩;replace hS:=hS.below_ hb;clear hb)|((with_reducible refine Calls.mono (HI2.out _ hS.ile) ?_);rintro e w ⟨rfl,hb⟩;replace hS:=hS.below_ hb;clear hb))|(go_at_call 44;first|((with_reducible refine Calls.mono (HU1.out _ hS.ile) ?_);rintro e w ⟨rfl,hb⟩;replace hS:=hS.below_ hb;clear hb)|((with_reducible refine Calls.mono (HU2.out _ hS.ile) ?_);rintro e w ⟨rfl,hb⟩;replace hS:=hS.below_ hb;clear hb))|((with_reducible refine atList ?_);  ((with_reducible refine isGuard ?_);  ((with_reducible refine guarded_yes ?hw ?_);case hw=>(simp only [Region.wanted,yielded,zC,zA,zB,zK,beq_self_eq_true];done)) ) ))
   go_ret2
   exact ⟨rfl,m,HA.out,Hback.out _ _ hS⟩
 | true =>
 rw [u1,u2] at hm
 rw [u1] at HU1
 rw [u2] at HU2
 simp only [Bool.and_self,Bool.not_true,Bool.false_eq_true,if_false] at hm
 by_cases hab:(a:Int)=(b:Int)
 · rw [if_pos hab] at hm
   obtain rfl:a=b:=by omega
   cases hm
   clear HR hp hab
   go_enter Tryz.func10,Tryz.ntmps10
   go_wp2_with (first|(go_at_call 43;(with_reducible refine Calls.mono (HL.out _ hS.ile) ?_);rintro e w ⟨rfl,rfl⟩)|(go_at_call 37;  ((with_reducible refine Calls.mono (HI1.out _ hS.ile) ?_);rintro e w ⟨rfl,hb⟩;replace hS:=hS.below_ hb;clear hb) )|(go_at_call 44;  ((with_reducible refine Calls.mono (HU1.out _ hS.ile) ?_);rintro e w ⟨rfl,hb⟩;replace hS:=hS.below_ hb;clear hb) )|((with_reducible refine atList ?_);  ((with_reducible refine isGuard ?_);  ((with_reducible refine guarded_yes ?hw ?_);case hw=>(simp only [Region.wanted,yielded,zC,zA,zB,zK,beq_self_eq_true];done)) ) ))
   go_ret2
   exact ⟨rfl,m,HA.out,Hback.out _ _ hS⟩
 rw [if_neg hab,norm_eq] at hm
 simp only [] at hm
 have hv0:0≤v∧v<s.lev.length:=by
  refine Classical.byContradiction fun hc=>c1 ?_
  unfold G.St.level
  rw [if_neg hc]
  decide
 obtain ⟨x,rfl⟩:∃ x:Nat,v=(x:Int):=⟨v.toNat,by omega⟩
 rw [Int.toNat_natCast] at hm
 by_cases hx:x<s.tabs.length
 case neg=>rw [if_neg hx] at hm;cases hm
 rw [if_pos hx] at hm
 obtain ⟨h0,L,P,vV,vL,vT,vC,gs,h1,h2,i3,h4,h5,h6,h7,h8,h9,hP,h11,hgs,h13,h14⟩:=HR.out
 obtain ⟨T,cT,rfl,hgt⟩:=h13 (by omega)
 have hg:=List.getElem?_eq_getElem (l:=gs) (i:=x) (by omega)
 have htt:=List.getElem?_eq_getElem (l:=s.tabs) (i:=x) hx
 have htb:s.tabs[x]=s.tab x:=by unfold G.St.tab;rw [List.getD_eq_getElem?_getD,htt];rfl
 have iT:=hgt x _ hg
 have hTab:=h14 x _ _ hg htt
 rw [htb] at hTab
 generalize gs[x]=g at *
 have hxi:(x:Int)<(s.tabs.length:Int):=by omega
 have hx64:s.tabs.length≤64:=h0.tabs
 generalize hl:G.flipIf a (b % 2 == 1)=l at *
 generalize hh:G.flipIf b (b % 2 == 1)=h at *
 have hA3:l<4611686018427387904:=by rw [← hl];exact flipIf_lt hA2 _
 have hB3:h<4611686018427387904:=by rw [← hh];exact flipIf_lt hB2 _
 have hno:=fun w'=>enorm_any w' a b hA2 hB2
 rw [hl,hh] at hno
 have HNo:=Lib.hid hno
 have hF:=fun (w':World) (hle:J.le (heapOf w'))=>tfind_any (hTab.le hle) l h
 clear h1 h2 h4 h5 h6 h7 h8 h9 hP h11 hgs h13 h14 hno HR hg htt hgt
 cases hf:G.findT (s.tab x) l h with
 | some id =>
   rw [hf] at hm hF
   cases hm
   have hidl:id<4194304:=by obtain ⟨e,he,hi⟩:=find_mem hf;rw [← hi];exact hT _ e he
   have HF:=Lib.hid hF
   clear hF hTab hp hT hf
   go_enter Tryz.func10,Tryz.ntmps10
   go_wp2_with (first|(go_at_call 43;(with_reducible refine Calls.mono (HL.out _ hS.ile) ?_);rintro e w ⟨rfl,rfl⟩)|(go_at_call 37;first|((with_reducible refine Calls.mono (HI1.out _ hS.ile) ?_);rintro e w ⟨rfl,hb⟩;replace hS:=hS.below_ hb;clear hb)|((with_reducible refine Calls.mono (HI2.out _ hS.ile) ?_);rintro e w ⟨rfl,hb⟩;replace hS:=hS.below_ hb;clear hb))|(go_at_call 44;first|((with_reducible refine Calls.mono (HU1.out _ hS.ile) ?_);rintro e w ⟨rfl,hb⟩;replace hS:=hS.below_ hb;clear hb)|((with_reducible refine Calls.mono (HU2.out _ hS.ile) ?_);rintro e w ⟨rfl,hb⟩;replace hS:=hS.below_ hb;clear hb))|(go_at_call 45;(with_reducible refine Calls.mono (HNo.out _) ?_);rintro e w ⟨rfl,rfl⟩)|(go_at_call 46;(with_reducible refine Calls.mono (HF.out _ hS.ile) ?_);rintro e w ⟨rfl,rfl⟩)|(go_at_call 48;(with_reducible refine Calls.mono (eof_any _ _ _ hidl) ?_);rintro e w ⟨rfl,rfl⟩)|((with_reducible refine atList ?_);first|((with_reducible refine isGuard ?_);  ((with_reducible refine guarded_yes ?hw ?_);case hw=>(simp only [Region.wanted,yielded,zC,zA,zB,zK,beq_self_eq_true];done)) )|((with_reducible refine isLoad ?_);( ((refine' ldI1 (v:=_) hS rfl rfl ?ha rfl ?hb ?_);(case ha=>first|exact ty_agg62|exact ty_agg65);(case hb=>assumption)));(try simp only [Act.put,zE,zF,zG]))))
   go_ret2
   exact ⟨rfl,m,HA.out,Hback.out _ _ hS⟩
 | none =>
   rw [hf] at hm hF
   have HF:=Lib.hid hF
   clear hF hTab hp hT hf
   simp only [] at hm
   cases had:s.add x l h with
   | none=>rw [had] at hm;cases hm
   | some o =>
     cases o with
     | none =>
       rw [had] at hm
       cases hm
       have HAd:=Lib.hid had
       clear had
       go_enter Tryz.func10,Tryz.ntmps10
       go_wp2_with (first|(go_at_call 43;(with_reducible refine Calls.mono (HL.out _ hS.ile) ?_);rintro e w ⟨rfl,rfl⟩)|(go_at_call 37;first|((with_reducible refine Calls.mono (HI1.out _ hS.ile) ?_);rintro e w ⟨rfl,hb⟩;replace hS:=hS.below_ hb;clear hb)|((with_reducible refine Calls.mono (HI2.out _ hS.ile) ?_);rintro e w ⟨rfl,hb⟩;replace hS:=hS.below_ hb;clear hb))|(go_at_call 44;first|((with_reducible refine Calls.mono (HU1.out _ hS.ile) ?_);rintro e w ⟨rfl,hb⟩;replace hS:=hS.below_ hb;clear hb)|((with_reducible refine Calls.mono (HU2.out _ hS.ile) ?_);rintro e w ⟨rfl,hb⟩;replace hS:=hS.below_ hb;clear hb))|(go_at_call 45;(with_reducible refine Calls.mono (HNo.out _) ?_);rintro e w ⟨rfl,rfl⟩)|(go_at_call 46;(with_reducible refine Calls.mono (HF.out _ hS.ile) ?_);rintro e w ⟨rfl,rfl⟩)|(go_at_call 47;(with_reducible refine Calls.mono (sadd_none HAd.out HA.out (Hback.out _ _ hS)) ?_);clear hS;rintro e w ⟨rfl,hfin⟩;have Hfin:=Lib.hid hfin;clear hfin)|((with_reducible refine atList ?_);first|((with_reducible refine isGuard ?_);  ((with_reducible refine guarded_yes ?hw ?_);case hw=>(simp only [Region.wanted,yielded,zC,zA,zB,zK,beq_self_eq_true];done)) )|((with_reducible refine isLoad ?_);( ((refine' ldI1 (v:=_) hS rfl rfl ?ha rfl ?hb ?_);(case ha=>first|exact ty_agg62|exact ty_agg65);(case hb=>assumption)));(try simp only [Act.put,zE,zF,zG]))))
       go_ret2
       exact ⟨rfl,Hfin.out⟩
     | some q =>
       obtain ⟨s1,id⟩:=q
       rw [had] at hm
       cases hm
       have HAd:=Lib.hid had
       have hidl:id<4194304:=by
        unfold G.St.add at had
        split at had
        · cases had
        · cases had
        · split at had
          · rename_i hc
            injection had with had;injection had with had;injection had with _ h2
            subst h2
            exact hc.2.1
          · cases had
       clear had
       go_enter Tryz.func10,Tryz.ntmps10
       go_wp2_with (first|(go_at_call 43;(with_reducible refine Calls.mono (HL.out _ hS.ile) ?_);rintro e w ⟨rfl,rfl⟩)|(go_at_call 37;first|((with_reducible refine Calls.mono (HI1.out _ hS.ile) ?_);rintro e w ⟨rfl,hb⟩;replace hS:=hS.below_ hb;clear hb)|((with_reducible refine Calls.mono (HI2.out _ hS.ile) ?_);rintro e w ⟨rfl,hb⟩;replace hS:=hS.below_ hb;clear hb))|(go_at_call 44;first|((with_reducible refine Calls.mono (HU1.out _ hS.ile) ?_);rintro e w ⟨rfl,hb⟩;replace hS:=hS.below_ hb;clear hb)|((with_reducible refine Calls.mono (HU2.out _ hS.ile) ?_);rintro e w ⟨rfl,hb⟩;replace hS:=hS.below_ hb;clear hb))|(go_at_call 45;(with_reducible refine Calls.mono (HNo.out _) ?_);rintro e w ⟨rfl,rfl⟩)|(go_at_call 46;(with_reducible refine Calls.mono (HF.out _ hS.ile) ?_);rintro e w ⟨rfl,rfl⟩)|(go_at_call 47;(with_reducible refine Calls.mono (sadd_some HAd.out hA3 hB3 HA.out (Hback.out _ _ hS)) ?_);clear hS;rintro e w ⟨rfl,hfin⟩;have Hfin:=Lib.hid hfin;clear hfin)|(go_at_call 48;(with_reducible refine Calls.mono (eof_any _ _ _ hidl) ?_);rintro e w ⟨rfl,rfl⟩)|((with_reducible refine atList ?_);first|((with_reducible refine isGuard ?_);  ((with_reducible refine guarded_yes ?hw ?_);case hw=>(simp only [Region.wanted,yielded,zC,zA,zB,zK,beq_self_eq_true];done)) )|((with_reducible refine isLoad ?_);( ((refine' ldI1 (v:=_) hS rfl rfl ?ha rfl ?hb ?_);(case ha=>first|exact ty_agg62|exact ty_agg65);(case hb=>assumption)));(try simp only [Act.put,zE,zF,zG]))))
       go_ret2
       exact ⟨rfl,Hfin.out⟩
end Go.Proofs.YtdhkkkhnjooioaaGreat
namespace Go.Proofs.YtdhkkkhnjooioaaGreat
open Go.RowKit
theorem add_lt {s s1:G.St} {x l h id:Nat} (had:s.add x l h=some (some (s1,id))):id<4194304:=by
 unfold G.St.add at had
 split at had
 · cases had
 · cases had
 · split at had
   · rename_i hc
     injection had with had;injection had with had;injection had with _ h2
     subst h2
     exact hc.2.1
   · cases had
set_option maxRecDepth 100000 in
set_option maxHeartbeats 4000000 in
theorem sbelow_any {E w:World} {I m:PH} {ms:List PH} {S:Nat} {s s':G.St} {x a b r:Nat} (hm:s.below x a b=some (s',r)) (hx:x<s.tabs.length) (hA2:a<4611686018427387904) (hB2:b<4611686018427387904) (hT:TabLt s) (hA:StAt S s m) (hS:Sat E I (m::ms) w) :
 Calls Tryz.prog 58 #[vPt S,nv x,nv a,nv b] w fun e w'=>e=.returned (nv r)∧∃ m',StAt S s' m'∧Sat E I (m'::ms) w':=by
 obtain ⟨J,lJ,mJ,hS,back⟩:=hS.ice
 have hR:=hA.read.le mJ
 have Hback:=Lib.hid back
 have HA:=Lib.hid hA
 clear back hA mJ lJ
 unfold G.St.below at hm
 by_cases hab:a=b
 · rw [if_pos hab] at hm
   subst hab
   cases hm
   clear hR hT
   go_enter Tryz.func58,Tryz.ntmps58
   go_wp2_with (fail)
   go_ret
   exact ⟨rfl,m,HA.out,Hback.out _ _ hS⟩
 rw [if_neg hab,norm_eq] at hm
 simp only [] at hm
 have hab':¬ (a:Int)=(b:Int):=by omega
 obtain ⟨h0,L,P,vV,vL,vT,vC,gs,h1,h2,i3,h4,h5,h6,h7,h8,h9,hP,h11,hgs,h13,h14⟩:=hR
 obtain ⟨T,cT,rfl,hgt⟩:=h13 (by omega)
 have hg:=List.getElem?_eq_getElem (l:=gs) (i:=x) (by omega)
 have htt:=List.getElem?_eq_getElem (l:=s.tabs) (i:=x) hx
 have htb:s.tabs[x]=s.tab x:=by unfold G.St.tab;rw [List.getD_eq_getElem?_getD,htt];rfl
 have iT:=hgt x _ hg
 have hTab:=h14 x _ _ hg htt
 rw [htb] at hTab
 generalize gs[x]=g at *
 have hxi:(x:Int)<(s.tabs.length:Int):=by omega
 have hx64:s.tabs.length≤64:=h0.tabs
 generalize hl:G.flipIf a (b % 2 == 1)=l at *
 generalize hh:G.flipIf b (b % 2 == 1)=h at *
 have hA3:l<4611686018427387904:=by rw [← hl];exact flipIf_lt hA2 _
 have hB3:h<4611686018427387904:=by rw [← hh];exact flipIf_lt hB2 _
 have hno:=fun w'=>enorm_any w' a b hA2 hB2
 rw [hl,hh] at hno
 have HNo:=Lib.hid hno
 have hF:=fun (w':World) (hle:J.le (heapOf w'))=>tfind_any (hTab.le hle) l h
 clear h1 h2 h4 h5 h6 h7 h8 h9 hP h11 hgs h13 h14 hno hg htt hgt h0
 cases hf:G.findT (s.tab x) l h with
 | some id =>
   rw [hf] at hm hF
   cases hm
   have hidl:id<4194304:=by obtain ⟨e,he,hi⟩:=find_mem hf;rw [← hi];exact hT _ e he
   have HF:=Lib.hid hF
   clear hF hTab hT hf
   go_enter Tryz.func58,Tryz.ntmps58
   go_wp2_with (first|(go_at_call 45;(with_reducible refine Calls.mono (HNo.out _) ?_);rintro e w ⟨rfl,rfl⟩)|(go_at_call 46;(with_reducible refine Calls.mono (HF.out _ hS.ile) ?_);rintro e w ⟨rfl,rfl⟩)|(go_at_call 48;(with_reducible refine Calls.mono (eof_any _ _ _ hidl) ?_);rintro e w ⟨rfl,rfl⟩)|((with_reducible refine atList ?_);first|((with_reducible refine isLoad ?_);( ((refine' ldI1 (v:=_) hS rfl rfl ?ha rfl ?hb ?_);(case ha=>first|exact ty_agg62|exact ty_agg65);(case hb=>assumption)));(try simp only [Act.put,zE,zF,zG]))))
   go_ret
   exact ⟨rfl,m,HA.out,Hback.out _ _ hS⟩
 | none =>
   rw [hf] at hm hF
   have HF:=Lib.hid hF
   clear hF hTab hT hf
   simp only [] at hm
   cases had:s.add x l h with
   | none=>rw [had] at hm;cases hm
   | some o =>
     cases o with
     | none=>rw [had] at hm;cases hm
     | some q =>
       obtain ⟨s1,id⟩:=q
       rw [had] at hm
       cases hm
       have HAd:=Lib.hid had
       have hidl:=add_lt had
       clear had
       go_enter Tryz.func58,Tryz.ntmps58
       go_wp2_with (first|(go_at_call 45;(with_reducible refine Calls.mono (HNo.out _) ?_);rintro e w ⟨rfl,rfl⟩)|(go_at_call 46;(with_reducible refine Calls.mono (HF.out _ hS.ile) ?_);rintro e w ⟨rfl,rfl⟩)|(go_at_call 47;(with_reducible refine Calls.mono (sadd_some HAd.out hA3 hB3 HA.out (Hback.out _ _ hS)) ?_);clear hS;rintro e w ⟨rfl,hfin⟩;have Hfin:=Lib.hid hfin;clear hfin)|(go_at_call 48;(with_reducible refine Calls.mono (eof_any _ _ _ hidl) ?_);rintro e w ⟨rfl,rfl⟩)|((with_reducible refine atList ?_);first|((with_reducible refine isLoad ?_);( ((refine' ldI1 (v:=_) hS rfl rfl ?ha rfl ?hb ?_);(case ha=>first|exact ty_agg62|exact ty_agg65);(case hb=>assumption)));(try simp only [Act.put,zE,zF,zG]))))
       go_ret
       exact ⟨rfl,Hfin.out⟩
end Go.Proofs.YtdhkkkhnjooioaaGreat
