import Derived.Test.YtdhkkkhnjooioaaGreatZbd
set_option linter.unusedSimpArgs false
set_option linter.unusedVariables false
namespace Go.Proofs.YtdhkkkhnjooioaaGreat
open Go.RowKit
theorem StR.pf {I:PH} {S:Nat} {s:G.St} (h:StR I S s):PlFit s.pl:=by obtain ⟨_,_,P,_,_,_,_,_,_,_,_,_,_,_,_,_,_,hP,_⟩:=h;exact hP.1
set_option maxRecDepth 100000 in
set_option maxHeartbeats 4000000 in
theorem value_any {w:World} {S f place steps:Nat} {s:G.St} (h:StR (heapOf w) S s) (hf:f<4611686018427387904) (hp:place<4611686018427387904) (hs:steps≤1000) :
 Calls Tryz.prog 61 #[vPt S,nv f,nv place,nv steps] w fun e w'=>e=.returned (.tuple #[.bool (s.valM place steps (steps+1) f).1,.bool (s.valM place steps (steps+1) f).2])∧Below w.heap.size w w':=by
 have hS:=Sat.start w
 have hpf:=h.pf
 have HR:=Lib.hid (fun (w':World) (hle:(heapOf w).le (heapOf w'))=>h.le hle)
 clear h
 obtain ⟨R,hr⟩:∃ R,R=s.valM place steps (steps+1) f:=⟨_,rfl⟩
 rw [← hr]
 have Hr:=Lib.hid hr
 clear hr
 go_enter Tryz.func61,Tryz.ntmps61
 go_wp2_with fail
 go_loopw [1,10] (fun v1 v10 wr=>∃ (i f':Nat),i≤steps+1∧v10=.int .i64 (i:Int)∧v1=nv f'∧f'<4611686018427387904∧R=s.valM place steps (steps+1 - i) f'∧Sat w (heapOf w) [] wr) (fun _ v10 _=>(steps+1 - intOf v10).toNat)
 case atStart=>exact ⟨0,f,Nat.zero_le _,rfl,rfl,hf,Hr.out,hS⟩
 case round =>
  clear hS
  obtain ⟨i,f',hi,rfl,rfl,hf',hv,hS⟩:=hrel
  by_cases hle:i≤steps
  · have hli:(i:Int)≤(steps:Int):=by omega
    obtain ⟨k,hk⟩:∃ k,steps+1 - i=k+1:=⟨steps - i,by omega⟩
    have hk2:steps+1 - (i+1)=k:=by omega
    rw [hk] at hv
    unfold G.St.valM at hv
    by_cases hc0:f'=0
    · subst hc0
      rw [if_pos (.inl rfl)] at hv
      have Hv:=Lib.hid hv
      clear hv
      go_wp2
      go_ret2
      refine ⟨?_,hS.end_ (PH.le.refl _)⟩
      rw [Hv.out]
      rfl
    by_cases hc1:f'=1
    · subst hc1
      rw [if_pos (.inr rfl)] at hv
      have Hv:=Lib.hid hv
      clear hv hc0
      go_wp2
      go_ret2
      refine ⟨?_,hS.end_ (PH.le.refl _)⟩
      rw [Hv.out]
      rfl
    rw [if_neg (by omega)] at hv
    have c0:¬ (f':Int)=0:=by omega
    have c1:¬ (f':Int)=1:=by omega
    have c0b:((f':Int) == 0)=false:=by simpa using c0
    have c1b:((f':Int) == 1)=false:=by simpa using c1
    have hR:=HR.out wr hS.ile
    unfold G.St.at_ at hv
    cases hn:s.nd (f' / 2) with
    | none =>
      rw [hn] at hv
      have Hv:=Lib.hid hv
      have HAt:=Lib.hid (sat_none hR f' (by omega) hn)
      clear hv hn hR
      go_wp2_with (first|(go_at_call 41;(with_reducible refine Calls.mono HAt.out ?_);rintro e w2 ⟨rfl,hb⟩;replace hS:=hS.below_ hb;clear hb))
      go_ret2
      refine ⟨?_,hS.end_ (PH.le.refl _)⟩
      rw [Hv.out]
      rfl
    | some n =>
      rw [hn] at hv
      simp only [Option.map_some] at hv
      have hnf:=hpf.nd _ n (G.Pl.nd_some.1 hn).2
      have HAt:=Lib.hid (sat_some hR f' (by omega) hn)
      have hl1:=flipIf_lt hnf.2.1 (f' % 2 == 1)
      have hl2:=flipIf_lt hnf.2.2.1 (f' % 2 == 1)
      have hv1:=hnf.1
      generalize G.flipIf n.lo (f' % 2 == 1)=lo at *
      generalize G.flipIf n.hi (f' % 2 == 1)=hi' at *
      have hv0:¬ (n.v:Int)<0:=by omega
      by_cases hvs:steps≤n.v
      · rw [if_pos hvs] at hv
        have hvsi:(steps:Int)≤(n.v:Int):=by omega
        have Hv:=Lib.hid hv
        clear hv hn hR hnf
        go_wp2_with (first|(go_at_call 41;(with_reducible refine Calls.mono HAt.out ?_);rintro e w2 ⟨rfl,hb⟩;replace hS:=hS.below_ hb;clear hb))
        go_ret2
        refine ⟨?_,hS.end_ (PH.le.refl _)⟩
        rw [Hv.out]
        rfl
      · rw [if_neg hvs] at hv
        have hvsi:¬ (steps:Int)≤(n.v:Int):=by omega
        have Hv:=Lib.hid hv
        have HB:=Lib.hid (fun w'=>at12_any w' place n.v hp (by omega))
        clear hv hn hR hnf
        generalize hb:place.testBit n.v=b at *
        cases b with
        | true =>
          go_wp2_with (first|(go_at_call 41;(with_reducible refine Calls.mono HAt.out ?_);rintro e w2 ⟨rfl,hb⟩;replace hS:=hS.below_ hb;clear hb)|(go_at_call 79;(with_reducible refine Calls.mono (HB.out _) ?_);rintro e w9 ⟨rfl,rfl⟩))
          exact ⟨⟨i+1,hi',by omega,by go_num,rfl,hl2,by rw [Hv.out,hk2];rfl,hS⟩,by simp [intOf];omega⟩
        | false =>
          go_wp2_with (first|(go_at_call 41;(with_reducible refine Calls.mono HAt.out ?_);rintro e w2 ⟨rfl,hb⟩;replace hS:=hS.below_ hb;clear hb)|(go_at_call 79;(with_reducible refine Calls.mono (HB.out _) ?_);rintro e w9 ⟨rfl,rfl⟩))
          exact ⟨⟨i+1,lo,by omega,by go_num,rfl,hl1,by rw [Hv.out,hk2];rfl,hS⟩,by simp [intOf];omega⟩
  · have hie:i=steps+1:=by omega
    subst hie
    have Hv:=Lib.hid hv
    clear hv
    go_wp2
    go_ret2
    refine ⟨?_,hS.end_ (PH.le.refl _)⟩
    have hv2:=Hv.out
    rw [Nat.sub_self] at hv2
    rw [hv2]
    rfl
theorem boolV_info:(Tryz.prog.info? 4).map (fun i=>(i.zero,i.size,i.bytes))=some (some (.bool false),1,1):=by kernel_rfl
set_option maxRecDepth 100000 in
set_option maxHeartbeats 4000000 in
theorem table_any {E w:World} {I:PH} {ms:List PH} {S f n:Nat} {s:G.St} {t:List Bool} (hR:StR (heapOf w) S s) (hf:f<4611686018427387904) (hn:n≤12) (hl:t.length=2 ^ n) (ht:∀ i b,t[i]?=some b→s.valM i n (n+1) f=(b,true)) (hS:Sat E I ms w) :
 Calls Tryz.prog 18 #[vPt S,nv f,nv n] w fun e w'=>∃ v m,e=.returned v∧OwnP m 4 1 v t.length (t.flatMap bvC)∧Sat E I (m::ms) w':=by
 have hp:2 ^ n≤4096:=Nat.pow_le_pow_right (by decide) hn
 have HE:=Lib.hid hS
 have HPl:=Lib.hid (fun w'=>places_any w' n (by omega))
 have HR:=Lib.hid (fun (w':World) (hle:(heapOf w).le (heapOf w'))=>hR.le hle)
 have Ht:=Lib.hid ht
 clear hS ht
 have hS:=Sat.start w
 rw [← hl] at hp HPl
 generalize hN:t.length=N at *
 clear hl
 go_enter Tryz.func18,Tryz.ntmps18
 go_wp2_with (first|((with_reducible refine isBuildSlice ?_);(refine' bsl hS ?hr ?_);(case hr=>(intro w0;go_simp;rfl));clear hS;intro XS w1 hS;(try simp only [zF,zG,zE,Act.eval,zD,zC,zA,zB,zJ,Value.cells] at hS);(try simp only [Act.put,zE,zF,zG])))
 go_loopw [7,8] (fun v7 v8 wr=>∃ (i:Nat) (m:PH),i≤N∧v8=.int .i64 (i:Int)∧OwnP m 4 1 v7 i ((t.take i).flatMap bvC)∧Sat w (heapOf w) [m] wr) (fun _ v8 _=>(N - intOf v8).toNat)
 case atStart=>exact ⟨0,_,Nat.zero_le _,rfl,OwnP.lit XS 4 1 0 #[] (by decide) rfl,hS⟩
 case round =>
  clear hS
  obtain ⟨i,m,hi,rfl,hO,hS⟩:=hrel
  have HO:=Lib.hid hO
  obtain ⟨A,c,rfl,_⟩:=hO.shape
  clear hO
  by_cases hlt:i<N
  · obtain ⟨b,hb⟩:∃ b,t[i]?=some b:=⟨_,List.getElem?_eq_getElem (by omega)⟩
    have hva:=value_any (HR.out _ hS.ile) hf (place:=i) (steps:=n) (by omega) (by omega)
    rw [Ht.out i b hb] at hva
    have HV:=Lib.hid hva
    have htk:t.take (i+1)=t.take i ++ [b]:=by rw [List.take_add_one,hb];rfl
    have Htk:=Lib.hid htk
    have ii:(i:Int)<(N:Int):=by omega
    clear hva hb htk
    have hbig:i≤4096:=by omega
    go_wp2_with (first|(go_at_call 22;(with_reducible refine Calls.mono (HPl.out _) ?_);rintro e w9 ⟨rfl,rfl⟩)|(go_at_call 61;(with_reducible refine Calls.mono HV.out ?_);rintro e w2 ⟨rfl,hb⟩;replace hS:=hS.below_ hb;clear hb)|((with_reducible refine isAppend ?_);(refine' apP (p:=_) (m:=_) (v:=_) (n:=_) (xs:=_) (news:=_) 1 (.inr (List.Mem.head _)) hS rfl rfl rfl Tryz.underlying35 boolV_info rfl (by decide) rfl HO.out rfl ?hl ?hcl ?h1 ?h63 ?hby ?_);(case hcl=>exact Cells.one _ _ _ _);(case hl=>rfl);(case h1=>rfl);(case h63=>(unfold maxLen;omega));(case hby=>omega);clear hS;intro v1 m1 w hO1 hS;have HO1:=Lib.hid hO1;clear hO1;(try simp only [zF,zG] at hS);(try simp only [Act.put,zE,zF,zG]))|((with_reducible refine isBuildSlice ?_);(refine' bsl hS ?hr ?_);(case hr=>(intro w0;go_simp;rfl));clear hS;intro XS w hS;(try simp only [zF,zG,zE,Act.eval,zD,zC,zA,zB,zJ,Value.cells] at hS);(try simp only [Act.put,zE,zF,zG])))
    refine ⟨⟨i+1,m1,by omega,by go_num,?_,hS.drop⟩,by simp [intOf];omega⟩
    rw [Htk.out,List.flatMap_append]
    exact HO1.out
  · have hie:i=N:=by omega
    subst hie
    go_wp2_with (first|(go_at_call 22;(with_reducible refine Calls.mono (HPl.out _) ?_);rintro e w9 ⟨rfl,rfl⟩))
    go_ret
    have h1:=HO.out
    rw [List.take_of_length_le (by omega)] at h1
    exact ⟨_,m,rfl,h1,HE.out.graft hS⟩
theorem seach_any {w:World} {S P:Nat} (h:(heapOf w).at S 1=some (vPt P)):Calls Tryz.prog 83 #[vPt S] w fun e w'=>e=.returned (.func (.func 81) #[] #[.pointer (some ⟨w.heap.size,0,none⟩)])∧w'=w.alloc (.cells #[vPt P] 55):=by
 have hS:=Sat.start w
 go_enter Tryz.func83,Tryz.ntmps83
 go_wp2_with (first|(go_at_call 66;(with_reducible refine Calls.mono (peach_any _ _) ?_);rintro e w1 ⟨rfl,rfl⟩)|((with_reducible refine atList ?_);first|((with_reducible refine isLoad ?_);( ((refine' ldI1 (v:=_) hS rfl rfl ?ha rfl ?hb ?_);(case ha=>exact ty_agg55);(case hb=>assumption)));(try simp only [Act.put,zE,zF,zG]))))
 go_ret
 exact ⟨rfl,rfl⟩
end Go.Proofs.YtdhkkkhnjooioaaGreat
namespace Go.Proofs.YtdhkkkhnjooioaaGreat.G
theorem cofT_get {l:Tb} {v i:Nat} {b:Bool} (hi:i<l.length):(cofT l v b)[i]?=some (l.getD (cofP i v b) false):=by
 unfold cofT;rw [List.getElem?_map,List.getElem?_range hi];rfl
theorem hangsT_dec (l:Tb) (v:Nat):hangsT l v=!decide (cofT l v false=cofT l v true):=by
 unfold hangsT
 by_cases h:cofT l v false=cofT l v true
 · rw [h];simp
 · rw [decide_eq_false h];simp [h]
theorem topT_at:∀ {o:List Nat} {l:Tb} {i v:Nat},(∀ (j u:Nat),j<i→o[j]?=some u→hangsT l u=false)→o[i]?=some v→hangsT l v=true→topT o l=some v
 | [],l,i,v,_,h2,_=>by simp at h2
 | a::o,l,0,v,_,h2,h3=>by
   simp at h2
   subst h2
   unfold topT
   rw [List.find?_cons,h3]
 | a::o,l,i+1,v,h1,h2,h3=>by
   have ha:=h1 0 a (by omega) rfl
   unfold topT
   rw [List.find?_cons,ha]
   exact topT_at (o:=o) (i:=i) (fun j u hj hu=>h1 (j+1) u (by omega) hu) h2 h3
theorem topT_nothing {o:List Nat} {l:Tb} (h:∀ (j u:Nat),j<o.length→o[j]?=some u→hangsT l u=false):topT o l=none:=by
 unfold topT
 rw [List.find?_eq_none]
 intro u hu
 obtain ⟨j,hj,rfl⟩:=List.getElem_of_mem hu
 rw [h j _ hj (List.getElem?_eq_getElem hj)]
 simp
def topI:Option Nat→Int
 | none => -1
 | some v=>v
end Go.Proofs.YtdhkkkhnjooioaaGreat.G
namespace Go.Proofs.YtdhkkkhnjooioaaGreat
open Go.RowKit
theorem boolOut {E w:World} {I m:PH} {ms:List PH} {v:Value} {l:List Bool} {e:TypeId} (hO:OwnP m e 1 v l.length (l.flatMap bvC)) (hS:Sat E I (m::ms) w):∃ J,I.le J∧BoolR J v l∧Sat E J ms w:=by
 obtain ⟨J,h1,h2,h3,_⟩:=hS.ice
 exact ⟨J,h1,hO.boolR.le h2,h3⟩
theorem BoolR.ld {I:PH} {v:Value} {l:List Bool} (h:BoolR I v l) {i:Nat} (hi:i<l.length):∃ X c b,v=.slice (some ⟨X,0,none⟩) l.length c∧l[i]?=some b∧I.at X i=some (.bool b):=by
 obtain ⟨X,c,h1,h2⟩:=h.2 (by omega)
 have hx:=List.getElem?_eq_getElem hi
 exact ⟨X,c,_,h1,hx,h2 i _ hx⟩
set_option maxRecDepth 100000 in
set_option maxHeartbeats 4000000 in
theorem rnot_any {E w:World} {I:PH} {ms:List PH} {x:Value} {l:List Bool} (hx:BoolR I x l) (hb:l.length≤1048576) (hS:Sat E I ms w) :
 Calls Tryz.prog 32 #[x] w fun e w'=>∃ u J,e=.returned u∧I.le J∧BoolR J u (G.notT l)∧Sat E J ms w':=by
 have HX:=Lib.hid hx
 obtain ⟨A,c,rfl⟩:=hx.1
 clear hx
 have hln:(G.notT l).length=l.length:=G.notT_length l
 have hget:∀ i b,l[i]?=some b→(G.notT l).take (i+1)=(G.notT l).take i ++ [!b]:=fun i b h=>by
  rw [List.take_add_one]
  unfold G.notT
  rw [List.getElem?_map,h];rfl
 have HG:=Lib.hid hget
 have Hln:=Lib.hid hln
 clear hget hln
 have Hfin:=Lib.hid (fun (m:PH) (v:Value) (w':World) (hO:OwnP m 4 1 v l.length ((G.notT l).flatMap bvC)) (h:Sat E I (m::ms) w')=>boolOut (l:=G.notT l) (by rw [Hln.out];exact hO) h)
 generalize hN:l.length=N at *
 go_enter Tryz.func32,Tryz.ntmps32
 go_wp2_with (first|((with_reducible refine isBuildSlice ?_);(refine' bsl hS ?hr ?_);(case hr=>(intro w0;go_simp;rfl));clear hS;intro XS w hS;(try simp only [zF,zG,zE,Act.eval,zD,zC,zA,zB,zJ,Value.cells] at hS);(try simp only [Act.put,zE,zF,zG])))
 go_loopw [3,4] (fun v3 v4 wr=>∃ (i:Nat) (m:PH),i≤N∧v4=.int .i64 (i:Int)∧OwnP m 4 1 v3 i (((G.notT l).take i).flatMap bvC)∧Sat E I (m::ms) wr) (fun _ v4 _=>(N - intOf v4).toNat)
 case atStart=>exact ⟨0,_,Nat.zero_le _,rfl,OwnP.lit XS 4 1 0 #[] (by decide) rfl,hS⟩
 case round =>
  clear hS
  obtain ⟨i,m,hi,rfl,hO,hS⟩:=hrel
  have HO:=Lib.hid hO
  obtain ⟨A3,c3,rfl,_⟩:=hO.shape
  clear hO
  by_cases hlt:i<N
  · obtain ⟨X,c',b,e1,hlb,fx⟩:=HX.out.ld (i:=i) (by omega)
    injection e1 with e1 e2 e3
    subst e1 e3
    clear e2
    have Htk:=Lib.hid (HG.out i b hlb)
    have ii:(i:Int)<(N:Int):=by omega
    clear hlb
    go_wp2_with (first|((with_reducible refine isLoad ?_);(refine' ldI1 (v:=_) hS rfl rfl ty_agg4 rfl ?hb ?_);(case hb=>assumption);(try simp only [Act.put,zE,zF,zG]))|((with_reducible refine isAppend ?_);(refine' apP (p:=_) (m:=_) (v:=_) (n:=_) (xs:=_) (news:=_) 1 (.inr (List.Mem.head _)) hS rfl rfl rfl Tryz.underlying35 boolV_info rfl (by decide) rfl HO.out rfl ?hl ?hcl ?h1 ?h63 ?hby ?_);(case hcl=>exact Cells.one _ _ _ _);(case hl=>rfl);(case h1=>rfl);(case h63=>(unfold maxLen;omega));(case hby=>omega);clear hS;intro v1 m1 w hO1 hS;have HO1:=Lib.hid hO1;clear hO1;(try simp only [zF,zG] at hS);(try simp only [Act.put,zE,zF,zG]))|((with_reducible refine isBuildSlice ?_);(refine' bsl hS ?hr ?_);(case hr=>(intro w0;go_simp;rfl));clear hS;intro XS w hS;(try simp only [zF,zG,zE,Act.eval,zD,zC,zA,zB,zJ,Value.cells] at hS);(try simp only [Act.put,zE,zF,zG])))
    refine ⟨⟨i+1,m1,by omega,by go_num,?_,hS.drop⟩,by simp [intOf];omega⟩
    rw [Htk.out,List.flatMap_append]
    exact HO1.out
  · have hie:i=N:=by omega
    subst hie
    go_wp2_with fail
    go_ret
    have h1:=HO.out
    rw [List.take_of_length_le (by rw [Hln.out];omega)] at h1
    obtain ⟨J,j1,j2,j3⟩:=Hfin.out m _ _ h1 hS
    exact ⟨_,J,rfl,j1,j2,j3⟩
set_option maxRecDepth 100000 in
set_option maxHeartbeats 8000000 in
theorem rcof_any {E w:World} {I:PH} {ms:List PH} {x:Value} {l:List Bool} {n v:Nat} {b:Bool} (hx:BoolR I x l) (hl:l.length=2 ^ n) (hv:v<n) (hn:n≤12) (hS:Sat E I ms w) :
 Calls Tryz.prog 80 #[x,nv v,.bool b] w fun e w'=>∃ u J,e=.returned u∧I.le J∧BoolR J u (G.cofT l v b)∧Sat E J ms w':=by
 have HX:=Lib.hid hx
 obtain ⟨A,c,rfl⟩:=hx.1
 clear hx
 have hp:2 ^ n≤4096:=Nat.le_trans (Nat.pow_le_pow_right (show (2:Nat) > 0 by decide) hn) (by decide)
 have hpv:2 ^ v≤4096:=Nat.le_trans (Nat.pow_le_pow_right (show (2:Nat) > 0 by decide) (show v≤12 by omega)) (by decide)
 have hln:(G.cofT l v b).length=l.length:=G.cofT_length l v b
 have hget:∀ i,i<l.length→∃ u,l[G.cofP i v b]?=some u∧(G.cofT l v b).take (i+1)=(G.cofT l v b).take i ++ [u]:=fun i h=>by
  have hk:G.cofP i v b<l.length:=by rw [hl];exact G.cofP_lt (by rw [← hl];exact h) hv b
  have hu:=List.getElem?_eq_getElem hk
  refine ⟨_,hu,?_⟩
  rw [List.take_add_one,G.cofT_get h,List.getD_eq_getElem?_getD,hu];rfl
 have hkl:∀ i,i<l.length→G.cofP i v b<l.length:=fun i h=>by rw [hl];exact G.cofP_lt (by rw [← hl];exact h) hv b
 have hkd:∀ i,i.testBit v=true→2 ^ v≤i:=fun i h=>Nat.ge_two_pow_of_testBit h
 have HG:=Lib.hid hget
 have Hln:=Lib.hid hln
 have Hkl:=Lib.hid hkl
 have Hkd:=Lib.hid hkd
 have HPl:=Lib.hid (fun w'=>places_any w' v (by omega))
 rw [← hl] at hp
 clear hget hln hkl hkd hl
 have Hfin:=Lib.hid (fun (m:PH) (vv:Value) (w':World) (hO:OwnP m 4 1 vv l.length ((G.cofT l v b).flatMap bvC)) (h:Sat E I (m::ms) w')=>boolOut (l:=G.cofT l v b) (by rw [Hln.out];exact hO) h)
 have HA:=Lib.hid (fun (w':World) (i:Nat) (hi:i≤4096)=>at12_any w' i v (by omega) (by omega))
 generalize hN:l.length=N at *
 generalize hP:2 ^ v=P at *
 go_enter Tryz.func80,Tryz.ntmps80
 go_wp2_with (first|((with_reducible refine isBuildSlice ?_);(refine' bsl hS ?hr ?_);(case hr=>(intro w0;go_simp;rfl));clear hS;intro XS w hS;(try simp only [zF,zG,zE,Act.eval,zD,zC,zA,zB,zJ,Value.cells] at hS);(try simp only [Act.put,zE,zF,zG]))|(go_at_call 22;(with_reducible refine Calls.mono (HPl.out _) ?_);rintro e w9 ⟨rfl,rfl⟩))
 go_loopw [7,9] (fun v7 v9 wr=>∃ (i:Nat) (m:PH),i≤N∧v9=.int .i64 (i:Int)∧OwnP m 4 1 v7 i (((G.cofT l v b).take i).flatMap bvC)∧Sat E I (m::ms) wr) (fun _ v9 _=>(N - intOf v9).toNat)
 case atStart=>exact ⟨0,_,Nat.zero_le _,rfl,OwnP.lit XS 4 1 0 #[] (by decide) rfl,hS⟩
 case round =>
  clear hS
  obtain ⟨i,m,hi,rfl,hO,hS⟩:=hrel
  have HO:=Lib.hid hO
  obtain ⟨A3,c3,rfl,_⟩:=hO.shape
  clear hO
  by_cases hlt:i<N
  · obtain ⟨u,hu,htk⟩:=HG.out i hlt
    have hkN:=Hkl.out i hlt
    obtain ⟨X,c',u',e1,hlb,fx⟩:=HX.out.ld (i:=G.cofP i v b) (by omega)
    rw [hu] at hlb
    injection hlb with hlb
    subst hlb
    injection e1 with e1 e2 e3
    subst e1 e3
    clear e2
    have Htk:=Lib.hid htk
    have hHA:=HA.out
    have ii:(i:Int)<(N:Int):=by omega
    have hd:=Hkd.out i
    have HB:=Lib.hid (fun w'=>HA.out w' i (by omega))
    have hkdef:G.cofP i v b=if i.testBit v && !b then i - P else if !i.testBit v && b then i+P else i:=by unfold G.cofP;rw [hP]
    clear hu htk hHA
    generalize hk:G.cofP i v b=k at *
    have kk:(k:Int)<(N:Int):=by omega
    clear hk
    cases htb:i.testBit v with
    | true =>
      rw [htb] at HB hkdef hd
      have hd:=hd rfl
      cases b with
      | true =>
        have hki:i=k:=by rw [hkdef];rfl
        subst hki
        clear hkdef hd
        go_wp2_with (first|(go_at_call 79;(with_reducible refine Calls.mono (HB.out _) ?_);rintro e w9 ⟨rfl,rfl⟩)|((with_reducible refine isLoad ?_);(refine' ldI1 (v:=_) hS rfl rfl ty_agg4 rfl ?hb ?_);(case hb=>assumption);(try simp only [Act.put,zE,zF,zG]))|((with_reducible refine isAppend ?_);(refine' apP (p:=_) (m:=_) (v:=_) (n:=_) (xs:=_) (news:=_) 1 (.inr (List.Mem.head _)) hS rfl rfl rfl Tryz.underlying35 boolV_info rfl (by decide) rfl HO.out rfl ?hl ?hcl ?h1 ?h63 ?hby ?_);(case hcl=>exact Cells.one _ _ _ _);(case hl=>rfl);(case h1=>rfl);(case h63=>(unfold maxLen;omega));(case hby=>omega);clear hS;intro v1 m1 w hO1 hS;have HO1:=Lib.hid hO1;clear hO1;(try simp only [zF,zG] at hS);(try simp only [Act.put,zE,zF,zG]))|((with_reducible refine isBuildSlice ?_);(refine' bsl hS ?hr ?_);(case hr=>(intro w0;go_simp;rfl));clear hS;intro XS w hS;(try simp only [zF,zG,zE,Act.eval,zD,zC,zA,zB,zJ,Value.cells] at hS);(try simp only [Act.put,zE,zF,zG])))
        refine ⟨⟨i+1,m1,by omega,by go_num,?_,hS.drop⟩,by simp [intOf];omega⟩
        rw [Htk.out,List.flatMap_append]
        exact HO1.out
      | false =>
        have hki:(i:Int) - (P:Int)=(k:Int):=by have:k=i - P:=hkdef;omega
        clear hkdef hd
        go_wp2_with (first|(go_at_call 79;(with_reducible refine Calls.mono (HB.out _) ?_);rintro e w9 ⟨rfl,rfl⟩)|((with_reducible refine isLoad ?_);(refine' ldI1 (v:=_) hS rfl rfl ty_agg4 rfl ?hb ?_);(case hb=>assumption);(try simp only [Act.put,zE,zF,zG]))|((with_reducible refine isAppend ?_);(refine' apP (p:=_) (m:=_) (v:=_) (n:=_) (xs:=_) (news:=_) 1 (.inr (List.Mem.head _)) hS rfl rfl rfl Tryz.underlying35 boolV_info rfl (by decide) rfl HO.out rfl ?hl ?hcl ?h1 ?h63 ?hby ?_);(case hcl=>exact Cells.one _ _ _ _);(case hl=>rfl);(case h1=>rfl);(case h63=>(unfold maxLen;omega));(case hby=>omega);clear hS;intro v1 m1 w hO1 hS;have HO1:=Lib.hid hO1;clear hO1;(try simp only [zF,zG] at hS);(try simp only [Act.put,zE,zF,zG]))|((with_reducible refine isBuildSlice ?_);(refine' bsl hS ?hr ?_);(case hr=>(intro w0;go_simp;rfl));clear hS;intro XS w hS;(try simp only [zF,zG,zE,Act.eval,zD,zC,zA,zB,zJ,Value.cells] at hS);(try simp only [Act.put,zE,zF,zG])))
        refine ⟨⟨i+1,m1,by omega,by go_num,?_,hS.drop⟩,by simp [intOf];omega⟩
        rw [Htk.out,List.flatMap_append]
        exact HO1.out
    | false =>
      rw [htb] at HB hkdef
      clear hd
      cases b with
      | true =>
        have hki:(i:Int)+(P:Int)=(k:Int):=by have:k=i+P:=hkdef;omega
        clear hkdef
        go_wp2_with (first|(go_at_call 79;(with_reducible refine Calls.mono (HB.out _) ?_);rintro e w9 ⟨rfl,rfl⟩)|((with_reducible refine isLoad ?_);(refine' ldI1 (v:=_) hS rfl rfl ty_agg4 rfl ?hb ?_);(case hb=>assumption);(try simp only [Act.put,zE,zF,zG]))|((with_reducible refine isAppend ?_);(refine' apP (p:=_) (m:=_) (v:=_) (n:=_) (xs:=_) (news:=_) 1 (.inr (List.Mem.head _)) hS rfl rfl rfl Tryz.underlying35 boolV_info rfl (by decide) rfl HO.out rfl ?hl ?hcl ?h1 ?h63 ?hby ?_);(case hcl=>exact Cells.one _ _ _ _);(case hl=>rfl);(case h1=>rfl);(case h63=>(unfold maxLen;omega));(case hby=>omega);clear hS;intro v1 m1 w hO1 hS;have HO1:=Lib.hid hO1;clear hO1;(try simp only [zF,zG] at hS);(try simp only [Act.put,zE,zF,zG]))|((with_reducible refine isBuildSlice ?_);(refine' bsl hS ?hr ?_);(case hr=>(intro w0;go_simp;rfl));clear hS;intro XS w hS;(try simp only [zF,zG,zE,Act.eval,zD,zC,zA,zB,zJ,Value.cells] at hS);(try simp only [Act.put,zE,zF,zG])))
        refine ⟨⟨i+1,m1,by omega,by go_num,?_,hS.drop⟩,by simp [intOf];omega⟩
        rw [Htk.out,List.flatMap_append]
        exact HO1.out
      | false =>
        have hki:i=k:=by rw [hkdef];rfl
        subst hki
        clear hkdef
        go_wp2_with (first|(go_at_call 79;(with_reducible refine Calls.mono (HB.out _) ?_);rintro e w9 ⟨rfl,rfl⟩)|((with_reducible refine isLoad ?_);(refine' ldI1 (v:=_) hS rfl rfl ty_agg4 rfl ?hb ?_);(case hb=>assumption);(try simp only [Act.put,zE,zF,zG]))|((with_reducible refine isAppend ?_);(refine' apP (p:=_) (m:=_) (v:=_) (n:=_) (xs:=_) (news:=_) 1 (.inr (List.Mem.head _)) hS rfl rfl rfl Tryz.underlying35 boolV_info rfl (by decide) rfl HO.out rfl ?hl ?hcl ?h1 ?h63 ?hby ?_);(case hcl=>exact Cells.one _ _ _ _);(case hl=>rfl);(case h1=>rfl);(case h63=>(unfold maxLen;omega));(case hby=>omega);clear hS;intro v1 m1 w hO1 hS;have HO1:=Lib.hid hO1;clear hO1;(try simp only [zF,zG] at hS);(try simp only [Act.put,zE,zF,zG]))|((with_reducible refine isBuildSlice ?_);(refine' bsl hS ?hr ?_);(case hr=>(intro w0;go_simp;rfl));clear hS;intro XS w hS;(try simp only [zF,zG,zE,Act.eval,zD,zC,zA,zB,zJ,Value.cells] at hS);(try simp only [Act.put,zE,zF,zG])))
        refine ⟨⟨i+1,m1,by omega,by go_num,?_,hS.drop⟩,by simp [intOf];omega⟩
        rw [Htk.out,List.flatMap_append]
        exact HO1.out
  · have hie:i=N:=by omega
    subst hie
    go_wp2_with fail
    go_ret
    have h1:=HO.out
    rw [List.take_of_length_le (by rw [Hln.out];omega)] at h1
    obtain ⟨J,j1,j2,j3⟩:=Hfin.out m _ _ h1 hS
    exact ⟨_,J,rfl,j1,j2,j3⟩
set_option maxRecDepth 100000 in
set_option maxHeartbeats 4000000 in
theorem rhangs_any {E w:World} {I:PH} {ms:List PH} {x:Value} {l:List Bool} {n v:Nat} (hx:BoolR I x l) (hl:l.length=2 ^ n) (hv:v<n) (hn:n≤12) (hS:Sat E I ms w) :
 Calls Tryz.prog 64 #[x,nv v] w fun e w'=>e=.returned (.bool (G.hangsT l v))∧Sat E I ms w':=by
 have hp:2 ^ n≤4096:=Nat.le_trans (Nat.pow_le_pow_right (show (2:Nat) > 0 by decide) hn) (by decide)
 have hc1:(G.cofT l v false).length≤4611686018427387904:=by rw [G.cofT_length];omega
 rw [G.hangsT_dec]
 have Hx:=Lib.hid hx
 have Hl:=Lib.hid hl
 clear hp hl hx
 go_enter Tryz.func64,Tryz.ntmps64
 go_wp2_with fail
 refine (rcof_any (b:=false) Hx.out Hl.out hv hn hS).mono ?_
 clear hS
 rintro e w ⟨u1,J1,rfl,j1,h1,hS⟩
 have H1:=Lib.hid h1
 have Hj1:=Lib.hid j1
 clear h1 j1
 go_wp2_with fail
 refine (rcof_any (b:=true) (Hx.out.le Hj1.out) Hl.out hv hn hS).mono ?_
 clear hS
 rintro e w ⟨u2,J2,rfl,j2,h2,hS⟩
 have H2:=Lib.hid h2
 have Hj2:=Lib.hid j2
 clear h2 j2
 go_wp2_with fail
 refine (bsame_any (H1.out.le Hj2.out) H2.out hc1 hS).mono ?_
 clear hS
 rintro e w ⟨rfl,hS⟩
 go_wp2_with fail
 go_ret
 exact ⟨rfl,(hS.less Hj2.out).less Hj1.out⟩
set_option maxRecDepth 100000 in
set_option maxHeartbeats 4000000 in
theorem rtop_any {E w:World} {I:PH} {ms:List PH} {o x:Value} {os:List Nat} {l:List Bool} {n:Nat} (ho:NumR I o os) (hx:BoolR I x l) (hl:l.length=2 ^ n) (hos:∀ v ∈ os,v<n) (hol:os.length≤64) (hn:n≤12) (hS:Sat E I ms w) :
 Calls Tryz.prog 24 #[o,x] w fun e w'=>e=.returned (.int .i64 (G.topI (G.topT os l)))∧Sat E I ms w':=by
 have Hx:=Lib.hid hx
 have Ho:=Lib.hid ho
 have Hl:=Lib.hid hl
 obtain ⟨A,c,rfl⟩:=ho.1
 have hld:∀ i,i<os.length→∃ X v,A=some ⟨X,0,none⟩∧os[i]?=some v∧I.at X i=some (nv v)∧v<n:=fun i hi=>by
  obtain ⟨X,c',e1,h1⟩:=ho.2 (by omega)
  injection e1 with e1
  have hg:=List.getElem?_eq_getElem hi
  exact ⟨X,_,e1,hg,h1 i _ hg,hos _ (List.getElem_mem hi)⟩
 have Hld:=Lib.hid hld
 have hend:(∀ (j u:Nat),j<os.length→os[j]?=some u→G.hangsT l u=false)→G.topT os l=none:=G.topT_nothing
 have hat:∀ (i v:Nat),(∀ (j u:Nat),j<i→os[j]?=some u→G.hangsT l u=false)→os[i]?=some v→G.hangsT l v=true→G.topT os l=some v:=fun i v=>G.topT_at
 have Hend:=Lib.hid hend
 have Hat:=Lib.hid hat
 generalize hr:G.topT os l=r at *
 clear hx ho hl hos hld hend hat hr
 generalize hN:os.length=N at *
 go_enter Tryz.func24,Tryz.ntmps24
 go_wp2_with fail
 go_loopw [5] (fun v5 wr=>∃ i:Nat,i≤N∧v5=.int .i64 (i:Int)∧(∀ (j u:Nat),j<i→os[j]?=some u→G.hangsT l u=false)∧Sat E I ms wr) (fun v5 _=>(N - intOf v5).toNat)
 case atStart=>exact ⟨0,Nat.zero_le _,rfl,fun j u hj=>by omega,hS⟩
 case round =>
  clear hS
  obtain ⟨i,hi,rfl,hp,hS⟩:=hrel
  have Hp:=Lib.hid hp
  clear hp
  by_cases hlt:i<N
  · obtain ⟨X,v,rfl,hv,fv,hvn⟩:=Hld.out i hlt
    have ii:(i:Int)<(N:Int):=by omega
    have HH:=Lib.hid (fun (w':World) (h:Sat E I ms w')=>rhangs_any Hx.out Hl.out hvn hn h)
    cases hh:G.hangsT l v with
    | true =>
      rw [hh] at HH
      have hr:=Hat.out i v Hp.out hv hh
      subst hr
      clear hv hh
      go_wp2_with (first|(go_at_call 64;(with_reducible refine Calls.mono (HH.out _ hS) ?_);clear hS;rintro e w ⟨rfl,hS⟩)|((with_reducible refine atList ?_);first|((with_reducible refine isLoad ?_);( ((refine' ldI1 (v:=_) hS rfl rfl ?ha rfl ?hb ?_);(case ha=>exact ty_agg3);(case hb=>assumption)));(try simp only [Act.put,zE,zF,zG]))))
      go_ret
      exact ⟨rfl,hS⟩
    | false =>
      rw [hh] at HH
      have hs:∀ (j u:Nat),j<i+1→os[j]?=some u→G.hangsT l u=false:=fun j u hj hu=>by
       by_cases hji:j=i
       · subst hji;rw [hv] at hu;injection hu with hu;rw [← hu];exact hh
       · exact Hp.out j u (by omega) hu
      have Hs:=Lib.hid hs
      clear hs hv hh
      go_wp2_with (first|(go_at_call 64;(with_reducible refine Calls.mono (HH.out _ hS) ?_);clear hS;rintro e w ⟨rfl,hS⟩)|((with_reducible refine atList ?_);first|((with_reducible refine isLoad ?_);( ((refine' ldI1 (v:=_) hS rfl rfl ?ha rfl ?hb ?_);(case ha=>exact ty_agg3);(case hb=>assumption)));(try simp only [Act.put,zE,zF,zG]))))
      exact ⟨⟨i+1,by omega,by go_num,Hs.out,hS⟩,by simp [intOf];omega⟩
  · have hie:i=N:=by omega
    subst hie
    have hr:=Hend.out Hp.out
    subst hr
    go_wp2_with fail
    go_ret
    exact ⟨rfl,hS⟩
end Go.Proofs.YtdhkkkhnjooioaaGreat
