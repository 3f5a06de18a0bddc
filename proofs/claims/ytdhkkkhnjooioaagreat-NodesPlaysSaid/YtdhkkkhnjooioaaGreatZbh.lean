import Derived.Test.YtdhkkkhnjooioaaGreatZbf
set_option linter.unusedSimpArgs false
set_option linter.unusedVariables false
namespace Go.Proofs.YtdhkkkhnjooioaaGreat
open Go.RowKit
theorem ty_agg31:aggB Tryz.prog 31=some true:=by kernel_rfl
theorem ty_sz31:sizeB Tryz.prog 31=some 5:=by kernel_rfl
theorem ty_z31:zeroB Tryz.prog 31=some (.agg #[.int .i64 0,.int .i64 0,.slice none 0 0,.slice none 0 0,.slice none 0 0]):=by kernel_rfl
set_option maxRecDepth 100000 in
set_option maxHeartbeats 4000000 in
theorem rnew_bad {E w:World} {I:PH} {ms:List PH} {vars room:Int} (h:vars<0∨64<vars∨room<1∨1048576<room) (hS:Sat E I ms w):Calls Tryz.prog 6 #[.int .i64 vars,.int .i64 room] w fun e w'=>e=.returned (.tuple #[.agg #[.int .i64 0,.int .i64 0,.slice none 0 0,.slice none 0 0,.slice none 0 0],.int .i64 2])∧Sat E I ms w':=by
 have h:decide (vars<0)=true∨(decide (vars<0)=false∧decide (64<vars)=true)∨(decide (vars<0)=false∧decide (64<vars)=false∧decide (room<1)=true)∨(decide (vars<0)=false∧decide (64<vars)=false∧decide (room<1)=false∧decide (1048576<room)=true):=by simp only [decide_eq_true_eq,decide_eq_false_iff_not];omega
 rcases h with h|⟨h,h2⟩|⟨h,h2,h3⟩|⟨h,h2,h3,h4⟩
 all_goals
  go_enter Tryz.func6,Tryz.ntmps6
  go_wp2_with (first|((with_reducible refine atList ?_);first|((with_reducible refine isAllocD 4 ?_);(refine' al (z:=_) hS rfl rfl ?ha ?_);(case ha=>exact ty_z31);clear hS;intro R4 w hS;(try simp only [Value.cells] at hS);(try simp only [Act.put,zE,zF,zG]))|((with_reducible refine isStore ?_);(first|(refine stN 0 hS rfl rfl rfl rfl rfl ?ha rfl rfl ?_;(case ha=>exact ty_sz31)));clear hS;intro w hS;(try simp only [zG,Act.eval,zD,zC,zA,zB,zJ,Value.cells] at hS);(try simp only [Act.put])) ))
  refine bodyPost_ret (res2 rfl (rvN 0 hS rfl rfl ty_agg31 ty_sz31) (rvt rfl)) rfl ?_
  exact ⟨rfl,hS.drop⟩
set_option maxRecDepth 100000 in
set_option maxHeartbeats 4000000 in
theorem rnew_ok {E w:World} {I:PH} {ms:List PH} (n room:Nat) (hn:n≤64) (h1:1≤room) (h2:room≤1048576) (hS:Sat E I ms w):Calls Tryz.prog 6 #[nv n,nv room] w fun e w'=>∃ v m,e=.returned (.tuple #[.agg #[nv n,nv room,v,.slice none 0 0,.slice none 0 0],.int .i64 0])∧OwnP m 3 1 v n ((List.range n).flatMap ivC)∧Sat E I (m::ms) w':=by
 have a1:decide ((n:Int)<0)=false:=by rw [decide_eq_false_iff_not];omega
 have a2:decide (64<(n:Int))=false:=by rw [decide_eq_false_iff_not];omega
 have a3:decide ((room:Int)<1)=false:=by rw [decide_eq_false_iff_not];omega
 have a4:decide (1048576<(room:Int))=false:=by rw [decide_eq_false_iff_not];omega
 have b1:¬ (n:Int)<0:=by omega
 have b2:¬ (64:Int)<(n:Int):=by omega
 have b3:¬ (room:Int)<1:=by omega
 have b4:¬ (1048576:Int)<(room:Int):=by omega
 have hr:∀ i,(List.range (i+1)).flatMap ivC=(List.range i).flatMap ivC ++ [nv i]:=fun i=>by rw [List.range_succ,List.flatMap_append];rfl
 have Hr:=Lib.hid hr
 clear hr
 go_enter Tryz.func6,Tryz.ntmps6
 go_wp2_with (first|((with_reducible refine atList ?_);first|((with_reducible refine isAllocD 4 ?_);(refine' al (z:=_) hS rfl rfl ?ha ?_);(case ha=>exact ty_z31);clear hS;intro R4 w hS;(try simp only [Value.cells] at hS);(try simp only [Act.put,zE,zF,zG]))|((with_reducible refine isAllocD 6 ?_);(refine' al (z:=_) hS rfl rfl ?ha ?_);(case ha=>exact ty_z31);clear hS;intro S6 w hS;(try simp only [Value.cells] at hS);(try simp only [Act.put,zE,zF,zG]))|((with_reducible refine isStore ?_);( (refine stN 0 hS rfl rfl rfl rfl rfl ?ha rfl rfl ?_;(case ha=>exact ty_sz31)) );clear hS;intro w hS;(try simp only [zG,Act.eval,zD,zC,zA,zB,zJ,Value.cells] at hS);(try simp only [Act.put])) ))
 have hS0:=hS.empty
 clear hS
 have hS1:Sat E I (PH.one S6 (.cells #[nv n,nv room,.slice none 0 0,.slice none 0 0,.slice none 0 0] 31)::PH.one R4 (.cells #[.int .i64 0,.int .i64 0,.slice none 0 0,.slice none 0 0,.slice none 0 0] 31)::(fun _=>none)::ms) w:=hS0.perm ((List.Perm.swap _ _ _).trans (List.Perm.cons _ (List.Perm.swap _ _ _)))
 clear hS0
 go_loopw [7] (fun v7 wr=>∃ (i:Nat) (v:Value) (m:PH),i≤n∧v7=.int .i64 (i:Int)∧OwnP m 3 1 v i ((List.range i).flatMap ivC)∧Sat E I (PH.one S6 (.cells #[nv n,nv room,v,.slice none 0 0,.slice none 0 0] 31)::PH.one R4 (.cells #[.int .i64 0,.int .i64 0,.slice none 0 0,.slice none 0 0,.slice none 0 0] 31)::m::ms) wr) (fun v7 _=>(n - intOf v7).toNat)
 case atStart=>exact ⟨0,_,_,Nat.zero_le _,rfl,OwnP.nil _ _,hS1⟩
 case round =>
  clear hS1
  obtain ⟨i,v,m,hi,rfl,hO,hS⟩:=hrel
  have HO:=Lib.hid hO
  obtain ⟨A3,c3,rfl,_⟩:=hO.shape
  clear hO
  by_cases hlt:i<n
  · have ii:(i:Int)<(n:Int):=by omega
    go_wp2_with (first|((with_reducible refine isAppend ?_);(refine' apP (p:=_) (m:=_) (v:=_) (n:=_) (xs:=_) (news:=_) 3 (.inr (List.Mem.head _)) hS rfl rfl rfl Tryz.underlying28 int_info rfl (by decide) rfl HO.out rfl ?hl ?hcl ?h1 ?h63 ?hby ?_);(case hcl=>exact Cells.one _ _ _ _);(case hl=>rfl);(case h1=>rfl);(case h63=>(unfold maxLen;omega));(case hby=>omega);clear hS;intro v1 m1 w hO1 hS;refine Veil.out ?_;obtain ⟨A1,c1,rfl,_⟩:=OwnP.shape hO1;refine ⟨?_⟩;have HO1:=Lib.hid hO1;clear hO1;(try simp only [zF,zG] at hS);(try simp only [Act.put,zE,zF,zG]))|((with_reducible refine atList ?_);first|((with_reducible refine isLoad ?_);( (refine ld1 0 hS rfl rfl ?ha rfl rfl rfl ?_;(case ha=>exact ty_agg28)) );(try simp only [Act.put,zE,zF,zG]))|((with_reducible refine isStore ?_);( (refine st1 1 hS rfl rfl rfl rfl rfl ?ha rfl rfl ?hb ?_;(case ha=>exact ty_sz28);(case hb=>(simp;done))) );clear hS;intro w hS;(try simp only [zF,zG,zE,Act.eval,zD,zC,zA,zB,zJ] at hS);(try simp only [Act.put]))|((with_reducible refine isBuildSlice ?_);(refine' bsl hS ?hr ?_);(case hr=>(intro w0;go_simp;rfl));clear hS;intro XS w hS;(try simp only [Act.eval,zD,zC,zA,zB,zJ,Value.cells] at hS);(try simp only [Act.put,zE,zF,zG]))))
    refine ⟨⟨i+1,_,m1,by omega,by go_num,?_,hS.drop⟩,by simp [intOf];omega⟩
    rw [Hr.out]
    exact HO1.out
  · have hie:i=n:=by omega
    subst hie
    go_wp2_with (first|((with_reducible refine atList ?_);first|((with_reducible refine isLoad ?_);( (refine ldN 0 hS rfl rfl ?ha rfl rfl ?hb ?_;(case ha=>exact ty_agg31);(case hb=>exact ty_sz31)) );(try simp only [Act.put,zE,zF,zG]))|((with_reducible refine isStore ?_);( (refine stN 1 hS rfl rfl rfl rfl rfl ?ha rfl rfl ?_;(case ha=>exact ty_sz31)));clear hS;intro w hS;(try simp only [zF,zG,Act.eval,zD,zC,zA,zB,zJ,Value.cells] at hS);(try simp only [Act.put])) ))
    refine bodyPost_ret (res2 rfl (rvN 1 hS rfl rfl ty_agg31 ty_sz31) (rvt rfl)) rfl ?_
    exact ⟨_,m,rfl,HO.out,hS.drop.drop⟩
def lvlOf (os:List Nat) (v:Int):Int:=match os.findIdx? (fun u:Nat=>(u:Int) == v) with|some i=>i|none => -1
theorem lvl_at {os:List Nat} {v:Int} {i u:Nat} (h1:∀ (j z:Nat),j<i→os[j]?=some z→¬ (z:Int)=v) (h2:os[i]?=some u) (h3:(u:Int)=v):lvlOf os v=i:=by
 have hi:=(List.getElem?_eq_some_iff.1 h2).1
 have:os.findIdx? (fun u:Nat=>(u:Int) == v)=some i:=by
  rw [List.findIdx?_eq_some_iff_getElem]
  refine ⟨hi,?_,fun j hj=>?_⟩
  · have:os[i]=u:=by rw [List.getElem?_eq_getElem hi] at h2;injection h2
    rw [this];simpa using h3
  · have:=h1 j _ hj (List.getElem?_eq_getElem (by omega))
    simpa using this
 unfold lvlOf;rw [this]
theorem lvl_none {os:List Nat} {v:Int} (h1:∀ (j z:Nat),j<os.length→os[j]?=some z→¬ (z:Int)=v):lvlOf os v = -1:=by
 have:os.findIdx? (fun u:Nat=>(u:Int) == v)=none:=by
  rw [List.findIdx?_eq_none_iff]
  intro u hu
  obtain ⟨j,hj,rfl⟩:=List.getElem_of_mem hu
  have:=h1 j _ hj (List.getElem?_eq_getElem hj)
  simpa using this
 unfold lvlOf;rw [this]
set_option maxRecDepth 100000 in
set_option maxHeartbeats 4000000 in
theorem rlevel_any {E w:World} {I:PH} {ms:List PH} {a b x y z:Value} {os:List Nat} {v:Int} (hx:NumR I x os) (hol:os.length≤1000) (hS:Sat E I ms w) :
 Calls Tryz.prog 68 #[.agg #[a,b,x,y,z],.int .i64 v] w fun e w'=>e=.returned (.int .i64 (lvlOf os v))∧Sat E I ms w':=by
 have hld:∀ i,i<os.length→∃ X c u,x=.slice (some ⟨X,0,none⟩) os.length c∧os[i]?=some u∧I.at X i=some (nv u):=fun i hi=>by
  obtain ⟨X,c,e1,h2⟩:=hx.2 (by omega)
  have hg:=List.getElem?_eq_getElem hi
  exact ⟨X,c,_,e1,hg,h2 i _ hg⟩
 have Hld:=Lib.hid hld
 obtain ⟨A,c,rfl⟩:=hx.1
 have Hend:=Lib.hid (fun h=>lvl_none (os:=os) (v:=v) h)
 have Hat:=Lib.hid (fun i u h1 h2 h3=>lvl_at (os:=os) (v:=v) (i:=i) (u:=u) h1 h2 h3)
 generalize hr:lvlOf os v=r at *
 clear hx hld hr
 generalize hN:os.length=N at *
 go_enter Tryz.func68,Tryz.ntmps68
 go_wp2_with (first|((with_reducible refine atList ?_);  ((with_reducible refine isBoxD 2 ?_);refine bx hS rfl rfl rfl ?_;clear hS;intro X2 w hS;(try simp only [Act.eval,zD,zC,zB,zJ,Value.cells] at hS);(try simp only [Act.put,zE,zF,zG])) ))
 go_loopw [5] (fun v5 wr=>∃ i:Nat,i≤N∧v5=.int .i64 (i:Int)∧(∀ (j z:Nat),j<i→os[j]?=some z→¬ (z:Int)=v)∧Sat E I (PH.one X2 (.cells #[a,b,.slice A N c,y,z] 31)::ms) wr) (fun v5 _=>(N - intOf v5).toNat)
 case atStart=>exact ⟨0,Nat.zero_le _,rfl,fun j z hj=>by omega,hS⟩
 case round =>
  clear hS
  obtain ⟨i,hi,rfl,hp,hS⟩:=hrel
  have Hp:=Lib.hid hp
  clear hp
  by_cases hlt:i<N
  · obtain ⟨X,c',u,e1,hu,fx⟩:=Hld.out i hlt
    injection e1 with e1 e2 e3
    subst e1 e3
    clear e2
    have ii:(i:Int)<(N:Int):=by omega
    by_cases hc:(u:Int)=v
    · have hr:=Hat.out i u Hp.out hu hc
      subst hr
      subst hc
      clear hu
      go_wp2_with (first|((with_reducible refine atList ?_);  ((with_reducible refine isLoad ?_);(first|(refine ld1 0 hS rfl rfl ?ha rfl rfl rfl ?_;(case ha =>  exact ty_agg28))|((refine' ldI1 (v:=_) hS rfl rfl ?ha rfl ?hb ?_);(case ha =>  exact ty_agg3 );(case hb=>assumption)));(try simp only [Act.put,zE,zF,zG])) ))
      go_ret
      exact ⟨rfl,hS.drop⟩
    · have hs:∀ (j z:Nat),j<i+1→os[j]?=some z→¬ (z:Int)=v:=fun j z hj hz=>by
       by_cases hji:j=i
       · subst hji;rw [hu] at hz;injection hz with hz;rw [← hz];exact hc
       · exact Hp.out j z (by omega) hz
      have Hs:=Lib.hid hs
      have hcb:((u:Int) == v)=false:=by simpa using hc
      clear hs hu
      go_wp2_with (first|((with_reducible refine atList ?_);  ((with_reducible refine isLoad ?_);(first|(refine ld1 0 hS rfl rfl ?ha rfl rfl rfl ?_;(case ha =>  exact ty_agg28))|((refine' ldI1 (v:=_) hS rfl rfl ?ha rfl ?hb ?_);(case ha =>  exact ty_agg3 );(case hb=>assumption)));(try simp only [Act.put,zE,zF,zG])) ))
      exact ⟨⟨i+1,by omega,by go_num,Hs.out,hS⟩,by simp [intOf];omega⟩
  · have hie:i=N:=by omega
    subst hie
    have hr:=Hend.out Hp.out
    subst hr
    go_wp2_with (first|((with_reducible refine atList ?_);  ((with_reducible refine isLoad ?_);( (refine ld1 0 hS rfl rfl ?ha rfl rfl rfl ?_;(case ha =>  exact ty_agg28)) );(try simp only [Act.put,zE,zF,zG])) ))
    go_ret
    exact ⟨rfl,hS.drop⟩
end Go.Proofs.YtdhkkkhnjooioaaGreat
