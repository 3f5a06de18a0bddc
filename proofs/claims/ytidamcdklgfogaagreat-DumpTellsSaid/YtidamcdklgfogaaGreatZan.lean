import Derived.Test.YtidamcdklgfogaaGreatZab
import Derived.Test.YtidamcdklgfogaaGreatZam
import Derived.Test.YtidamcdklgfogaaGreatZal
import Derived.Test.YtidamcdklgfogaaGreatZaj
set_option linter.unusedSimpArgs false
set_option linter.unusedVariables false
set_option maxRecDepth 100000
set_option maxHeartbeats 4000000
namespace Go.Proofs.YtidamcdklgfogaaGreat
section
open Go.RowKit
theorem ty_agg154:Kz Tryz.prog 154=some true:=by kernel_rfl
theorem Xh:Ko Tryz.prog 154=some 5:=by kernel_rfl
theorem ty_z154:Xb Tryz.prog 154=some (.agg #[.int .i64 0,.bool false,.int .i64 0,.int .i64 0,.int .i64 0]):=by kernel_rfl
theorem ty_agg119:Kz Tryz.prog 119=some false:=by kernel_rfl
theorem ty_sz119:Ko Tryz.prog 119=some 1:=by kernel_rfl
theorem ty_z119:Xb Tryz.prog 119=some (.slice none 0 0):=by kernel_rfl
def stopV:G.Stop→Value
 | .err e=>.agg #[nv e,.bool false,.int .i64 0,.int .i64 0,.int .i64 0]
 | .event ev=>.agg #[.int .i64 0,.bool true,.int .i64 ev.after,.int .i64 ev.kind,.int .i64 ev.level]
def stopE (s:G.Stop):List PanicEntry:=[{ v:=.iface 154 (stopV s),recovered:=false }]
section
variable {w:World} {D X:Nat} {m:G.Mg}
theorem xlevel_any (hX:(Qa w).at X 0=some (vPt D)) (h:MgR (Qa w) D m) (v:Int):Calls Tryz.prog 95 #[vPt X,.int .i64 v] w fun e w'=>e=.returned (.int .i64 (m.s.level v))∧w=w':=by
 obtain ⟨h0,S,M,H,wv,h1,h2,h3,h4,h5,h6,h7,h8,h9⟩:=h
 have hS:=Sat.start w
 have hc:=slevel_any h7 v
 clear h2 h3 h4 h5 h6 h7 h8 h9 h0
 go_enter Tryz.func95,Tryz.ntmps95
 go_wp2_with (first|(go_at_call 71;(with_reducible refine yI hc ?_);rintro e w9 ⟨rfl,rfl⟩)|((with_reducible refine Qc ?_);first|((with_reducible refine Qb ?_);( ((refine' Ka (v:=_) hS rfl rfl ?ha rfl ?hb ?_);(case ha=>first|exact Ky|exact Qr);(case hb=>assumption)));(try simp only [Act.put,zE,zF,zG]))))
 go_ret
 exact ⟨rfl,rfl⟩
theorem xedge_ok (hX:(Qa w).at X 0=some (vPt D)) (h:MgR (Qa w) D m) (k:Int) {f:Nat} (hk:m.of k=some f):Calls Tryz.prog 55 #[vPt X,.int .i64 k] w fun e w'=>e=.returned (nv f)∧w=w':=by
 obtain ⟨h0,S,M,H,wv,h1,h2,h3,h4,h5,h6,h7,⟨l,clock,h8,hr⟩,h9⟩:=h
 have hS:=Sat.start w
 have hq:=hr.get k
 have ho:m.of k=(m.hs.find? fun p=>p.1 == k).map (·.2):=rfl
 rw [← ho,hk] at hq
 have H2:=yH h8
 have Hq:=yH hq
 clear h1 h2 h4 h5 h6 h7 h8 h9 h0 hr hq ho
 go_enter Tryz.func55,Tryz.ntmps55
 go_wp2_with (first|((with_reducible refine Zo ?_);refine lk2 (x:=k) hS (.inl (PH.le.refl _)) H2.out kI Tryz.underlying115 Xu rfl rfl rfl rfl Hq.out ?_;simp only [Option.map_some,zJ,Option.isSome_some];(try simp only [Act.put,zE,zF,zG]))|((with_reducible refine Qc ?_);first|((with_reducible refine Qb ?_);( ((refine' Ka (v:=_) hS rfl rfl ?ha rfl ?hb ?_);(case ha=>first|exact Ky|exact Yg);(case hb=>assumption)));(try simp only [Act.put,zE,zF,zG]))))
 go_ret
 exact ⟨rfl,rfl⟩
theorem xedge_no (hX:(Qa w).at X 0=some (vPt D)) (h:MgR (Qa w) D m) (k:Int) (hk:m.of k=none):Calls Tryz.prog 55 #[vPt X,.int .i64 k] w fun e w'=>e=.panicked (stopE (.err 8))∧w=w':=by
 obtain ⟨h0,S,M,H,wv,h1,h2,h3,h4,h5,h6,h7,⟨l,clock,h8,hr⟩,h9⟩:=h
 have hS:=Sat.start w
 have hq:=hr.get k
 have ho:m.of k=(m.hs.find? fun p=>p.1 == k).map (·.2):=rfl
 rw [← ho,hk] at hq
 have H2:=yH h8
 have Hq:=yH hq
 clear h1 h2 h4 h5 h6 h7 h8 h9 h0 hr hq ho
 go_enter Tryz.func55,Tryz.ntmps55
 go_wp2_with (first|((with_reducible refine Zo ?_);refine lk2 (x:=k) hS (.inl (PH.le.refl _)) H2.out kI Tryz.underlying115 Xu rfl rfl rfl rfl Hq.out ?_;simp only [Option.map_none,Option.getD_none,Option.isSome_none];(try simp only [Act.put,zE,zF,zG]))|((with_reducible refine Qc ?_);first|((with_reducible refine Qb ?_);( ((refine' Ka (v:=_) hS rfl rfl ?ha rfl ?hb ?_);(case ha=>first|exact Ky|exact Yg);(case hb=>assumption)));(try simp only [Act.put,zE,zF,zG]))))
 refine ⟨rfl,?_⟩
 exact (⟨rfl,rfl⟩:_∧_)
theorem splitI_none {s:G.St} {f:Nat} (hn:s.nd (f / 2)=none) (v:Int):s.splitI f v=(f,f):=by unfold G.St.splitI G.St.at_;rw [hn];rfl
theorem splitI_some {s:G.St} {f:Nat} {n:G.Nd} (hn:s.nd (f / 2)=some n) (v:Int):s.splitI f v=if (n.v:Int)=v then (G.flipIf n.lo (f % 2 == 1),G.flipIf n.hi (f % 2 == 1)) else (f,f):=by unfold G.St.splitI G.St.at_;rw [hn];rfl
theorem xsplit_any (hX:(Qa w).at X 0=some (vPt D)) (h:MgR (Qa w) D m) (f:Nat) (v:Int) (hf:f<4611686018427387904):Calls Tryz.prog 53 #[vPt X,nv f,.int .i64 v] w fun e w'=>e=.returned (.tuple #[nv (m.s.splitI f v).1,nv (m.s.splitI f v).2])∧Below w.heap.size w w':=by
 obtain ⟨h0,S,M,H,wv,h1,h2,h3,h4,h5,h6,h7,h8,h9⟩:=h
 have hS:=Sat.start w
 cases hn:m.s.nd (f / 2) with
 | none =>
   have hc:=sat_none h7 f (by omega) hn
   rw [splitI_none hn]
   clear h2 h3 h4 h5 h6 h7 h8 h9 h0 hn
   go_enter Tryz.func53,Tryz.ntmps53
   go_wp2_with (first|(go_at_call 94;(with_reducible refine yI hc ?_);rintro e w9 ⟨rfl,hb⟩)|((with_reducible refine Qc ?_);  ((with_reducible refine Qb ?_);( ((refine' Ka (v:=_) hS rfl rfl ?ha rfl ?hb ?_);(case ha=>first|exact Ky|exact Qr);(case hb=>assumption)));(try simp only [Act.put,zE,zF,zG]))))
   go_ret2
   exact ⟨rfl,hb⟩
 | some n =>
   have hc:=sat_some h7 f (by omega) hn
   rw [splitI_some hn]
   clear h2 h3 h4 h5 h6 h7 h8 h9 h0 hn
   generalize G.flipIf n.lo (f % 2 == 1)=a at *
   generalize G.flipIf n.hi (f % 2 == 1)=b at *
   generalize n.v=x at *
   by_cases e:(x:Int)=v
   · rw [if_pos e]
     subst e
     go_enter Tryz.func53,Tryz.ntmps53
     go_wp2_with (first|(go_at_call 94;(with_reducible refine yI hc ?_);rintro e w9 ⟨rfl,hb⟩)|((with_reducible refine Qc ?_);first|((with_reducible refine Qp ?_);  ((with_reducible refine Qi ?hw ?_);case hw=>(simp only [Region.wanted,yielded,zC,zA,zB,zK,beq_self_eq_true];done)) )|((with_reducible refine Qb ?_);( ((refine' Ka (v:=_) hS rfl rfl ?ha rfl ?hb ?_);(case ha=>first|exact Ky|exact Qr);(case hb=>assumption)));(try simp only [Act.put,zE,zF,zG]))))
     go_ret2
     exact ⟨rfl,hb⟩
   · rw [if_neg e]
     go_enter Tryz.func53,Tryz.ntmps53
     go_wp2_with (first|(go_at_call 94;(with_reducible refine yI hc ?_);rintro e w9 ⟨rfl,hb⟩)|((with_reducible refine Qc ?_);first|((with_reducible refine Qp ?_);  ((with_reducible refine Qi ?hw ?_);case hw=>(simp only [Region.wanted,yielded,zC,zA,zB,zK,beq_self_eq_true];done)) )|((with_reducible refine Qb ?_);( ((refine' Ka (v:=_) hS rfl rfl ?ha rfl ?hb ?_);(case ha=>first|exact Ky|exact Qr);(case hb=>assumption)));(try simp only [Act.put,zE,zF,zG]))))
     go_ret2
     exact ⟨rfl,hb⟩
def topS (s:G.St) (q:Int × Int) (f:Nat):Int × Int:=match s.at_ f with|none=>q|some (v,_,_)=>if q.1<0∨s.level v<q.2 then ((v:Int),s.level v) else q
theorem topE_foldl (s:G.St) (l:List Nat):s.topE l=l.foldl (topS s) (-1,0):=rfl
theorem foldl_take {α β:Type} (g:β→α→β) (b:β) (l:List α) (i:Nat) (x:α) (h:l[i]?=some x):(l.take (i+1)).foldl g b=g ((l.take i).foldl g b) x:=by
 rw [List.take_add_one,h,Option.toList_some,List.foldl_append];rfl
theorem xtop_any (hX:(Qa w).at X 0=some (vPt D)) (h:MgR (Qa w) D m) (l:List Nat) (vl:Value) (hl:NumR (Qa w) vl l) (hb:∀ f ∈ l,f<4611686018427387904) (hlen:l.length<1000000) :
  Calls Tryz.prog 52 #[vPt X,vl] w fun e w'=>e=.returned (.int .i64 (m.s.topE l).1)∧Below w.heap.size w w':=by
 have hM:=h
 obtain ⟨h0,S,M,H,wv,h1,h2,h3,h4,h5,h6,h7,h8,h9⟩:=h
 have hS:=Sat.start w
 obtain ⟨⟨A,c,rfl⟩,hr⟩:=hl
 have HR:=yH hr
 have HL:=yH (fun (w':World) (hle:(Qa w).le (Qa w')) (v:Int)=>xlevel_any (w:=w') (PH.at_le hle hX) (hM.le hle) v)
 have HN:=yH (fun (w':World) (hle:(Qa w).le (Qa w')) (f:Nat) (hf:f<9223372036854775808) (hn:m.s.nd (f / 2)=none)=>sat_none (h7.le hle) f hf hn)
 have HT:=yH (fun (w':World) (hle:(Qa w).le (Qa w')) (f:Nat) (n:G.Nd) (hf:f<9223372036854775808) (hn:m.s.nd (f / 2)=some n)=>sat_some (h7.le hle) f hf hn)
 have HB:=yH hb
 have HE:=yH (topE_foldl m.s l)
 clear h2 h3 h4 h5 h6 h7 h8 h9 h0 hr hM hb
 generalize hN:l.length=N at *
 have HLn:=yH hN
 clear hN
 go_enter Tryz.func52,Tryz.ntmps52
 go_wp2_with (fail)
 go_loopw [5,6,15] (fun v5 v6 v15 wr=>∃ i:Nat,i≤N∧v15=.int .i64 (i:Int)∧v5=.int .i64 ((l.take i).foldl (topS m.s) (-1,0)).1∧v6=.int .i64 ((l.take i).foldl (topS m.s) (-1,0)).2∧Sat w (Qa w) [] wr) (fun _ _ v15 _=>(N - intOf v15).toNat)
 case atStart=>exact ⟨0,Nat.zero_le _,rfl,rfl,rfl,hS⟩
 case round =>
  clear hS
  obtain ⟨i,hi,rfl,rfl,rfl,hS⟩:=hrel
  by_cases hlt:i<N
  · obtain ⟨f,hx⟩:∃ f,l[i]?=some f:=⟨_,yA (by rw [HLn.out];exact hlt)⟩
    have hxb:=HB.out _ (List.mem_of_getElem? hx)
    have hft:=foldl_take (topS m.s) (-1,0) l i _ hx
    obtain ⟨Y,c',hY,hcell⟩:=HR.out (by omega)
    injection hY with hA hB hC
    subst hA hC
    have hcell:=hcell i _ hx
    generalize (l.take i).foldl (topS m.s) (-1,0)=q at *
    obtain ⟨q1,q2⟩:=q
    have hiN:(i:Int)<(N:Int):=by omega
    cases hn:m.s.nd (f / 2) with
    | none =>
      have hq:topS m.s (q1,q2) f=(q1,q2):=by unfold topS G.St.at_;rw [hn];rfl
      rw [hq] at hft
      have HF:=yH hft
      have HNn:=yH hn
      clear hft hq hx hn
      go_wp2_with (first|(go_at_call 94;(with_reducible refine yI (HN.out _ hS.ile f (by omega) HNn.out) ?_);rintro e w9 ⟨rfl,hb⟩;replace hS:=hS.below_ hb;clear hb)|((with_reducible refine Qc ?_);  ((with_reducible refine Qb ?_);( ((refine' Ka (v:=_) hS rfl rfl ?ha rfl ?hb ?_);(case ha=>first|exact Ky|exact Qr|exact Ki);(case hb=>assumption)));(try simp only [Act.put,zE,zF,zG]))))
      exact ⟨⟨i+1,by omega,by go_num,by rw [HF.out],by rw [HF.out],hS⟩,by simp [intOf];omega⟩
    | some n =>
      have hq:topS m.s (q1,q2) f=if q1<0∨m.s.level (n.v:Int)<q2 then ((n.v:Int),m.s.level (n.v:Int)) else (q1,q2):=by unfold topS G.St.at_;rw [hn];rfl
      rw [hq] at hft
      have HNn:=yH hn
      clear hq hx hn
      have HL2:=yH (fun (w':World) (hle:(Qa w).le (Qa w'))=>HL.out w' hle (n.v:Int))
      have HT2:=yH (fun (w':World) (hle:(Qa w).le (Qa w'))=>HT.out w' hle f n (by omega) HNn.out)
      generalize m.s.level (n.v:Int)=lv at *
      generalize G.flipIf n.lo (f % 2 == 1)=a at *
      generalize G.flipIf n.hi (f % 2 == 1)=b at *
      generalize n.v=x at *
      by_cases e1:q1<0
      · rw [if_pos (.inl e1)] at hft
        have HF:=yH hft
        clear hft
        go_wp2_with (first|(go_at_call 94;(with_reducible refine yI (HT2.out _ hS.ile) ?_);rintro e w9 ⟨rfl,hb⟩;replace hS:=hS.below_ hb;clear hb)|(go_at_call 95;(with_reducible refine yI (HL2.out _ hS.ile) ?_);rintro e w9 ⟨rfl,rfl⟩)|((with_reducible refine Qc ?_);first|((with_reducible refine Qp ?_);  ((with_reducible refine Qi ?hw ?_);case hw=>(simp only [Region.wanted,yielded,zC,zA,zB,zK,beq_self_eq_true];done)) )|((with_reducible refine Qb ?_);( ((refine' Ka (v:=_) hS rfl rfl ?ha rfl ?hb ?_);(case ha=>first|exact Ky|exact Qr|exact Ki);(case hb=>assumption)));(try simp only [Act.put,zE,zF,zG]))))
        exact ⟨⟨i+1,by omega,by go_num,by rw [HF.out],by rw [HF.out],hS⟩,by simp [intOf];omega⟩
      · by_cases e2:lv<q2
        · rw [if_pos (.inr e2)] at hft
          have HF:=yH hft
          clear hft
          go_wp2_with (first|(go_at_call 94;(with_reducible refine yI (HT2.out _ hS.ile) ?_);rintro e w9 ⟨rfl,hb⟩;replace hS:=hS.below_ hb;clear hb)|(go_at_call 95;(with_reducible refine yI (HL2.out _ hS.ile) ?_);rintro e w9 ⟨rfl,rfl⟩)|((with_reducible refine Qc ?_);first|((with_reducible refine Qp ?_);first|((with_reducible refine Qi ?hw ?_);case hw=>(simp only [Region.wanted,yielded,zC,zA,zB,zK,beq_self_eq_true];done))|((refine' guarded_cases (b:=_) ?hy ?_ ?_);(case hy=>(simp only [yielded,zC,zA,zB,zK];exact rfl));all_goals (intro hb;(try simp only [Bool.not_false] at hb);(try simp only [hb]);(try simp only [Act.put,zE,zF,zG]);first|((have hf:False:=by (simp at hb;omega));cases hf)|skip)))|((with_reducible refine Qb ?_);( ((refine' Ka (v:=_) hS rfl rfl ?ha rfl ?hb ?_);(case ha=>first|exact Ky|exact Qr|exact Ki);(case hb=>assumption)));(try simp only [Act.put,zE,zF,zG]))))
          exact ⟨⟨i+1,by omega,by go_num,by rw [HF.out],by rw [HF.out],hS⟩,by simp [intOf];omega⟩
        · rw [if_neg (by omega)] at hft
          have HF:=yH hft
          clear hft
          go_wp2_with (first|(go_at_call 94;(with_reducible refine yI (HT2.out _ hS.ile) ?_);rintro e w9 ⟨rfl,hb⟩;replace hS:=hS.below_ hb;clear hb)|(go_at_call 95;(with_reducible refine yI (HL2.out _ hS.ile) ?_);rintro e w9 ⟨rfl,rfl⟩)|((with_reducible refine Qc ?_);first|((with_reducible refine Qp ?_);first|((with_reducible refine Qi ?hw ?_);case hw=>(simp only [Region.wanted,yielded,zC,zA,zB,zK,beq_self_eq_true];done))|((refine' guarded_cases (b:=_) ?hy ?_ ?_);(case hy=>(simp only [yielded,zC,zA,zB,zK];exact rfl));all_goals (intro hb;(try simp only [Bool.not_false] at hb);(try simp only [hb]);(try simp only [Act.put,zE,zF,zG]);first|((have hf:False:=by (simp at hb;omega));cases hf)|skip)))|((with_reducible refine Qb ?_);( ((refine' Ka (v:=_) hS rfl rfl ?ha rfl ?hb ?_);(case ha=>first|exact Ky|exact Qr|exact Ki);(case hb=>assumption)));(try simp only [Act.put,zE,zF,zG]))))
          exact ⟨⟨i+1,by omega,by go_num,by rw [HF.out],by rw [HF.out],hS⟩,by simp [intOf];omega⟩
  · have hiN:i=N:=by omega
    subst hiN
    have HT3:=yH (show l.take i=l by rw [← HLn.out];exact List.take_length)
    go_wp2_with fail
    go_ret
    refine ⟨?_,hS.end_ (PH.le.refl _)⟩
    rw [HE.out,HT3.out]
    rfl
end
end
section
open Go.RowKit
theorem ptake_full (E w:World) (I m:PH) (ms:List PH) (P:Nat) (p:G.Pl) (n:G.Nd) (hfr:p.free=[]) (hle:p.room<p.slots.length) (hP:PoolAt P p m) (hS:Sat E I (m::ms) w) :
  Calls Tryz.prog 153 #[.pointer (some ⟨P,0,none⟩),ndA 0 n] w fun e w'=>e=.returned (.tuple #[nv 0,.int .i64 7])∧Sat E I (m::ms) w':=by
 obtain ⟨hf,A0,cA0,T0,cT0,vF,mA,mT,mF,hbd,hA,hT,hF⟩:=hP
 obtain ⟨nF,cF,hvF,_⟩:=hF.shape
 subst hvF
 have hlen:=hf.len
 have hroom:=hf.room
 have hml:=G.many_le p.slots
 have hk0:p.free.length=0:=by rw [hfr];rfl
 have hfin:∀ w',Sat E I (PH.one P (.cells (plV p A0 cA0 T0 cT0 (.slice nF p.free.length cF)) 216)::mA::mT::mF::ms) w'→Sat E I (m::ms) w':=fun w' hS'=>by
  obtain ⟨m',hb',hS2⟩:=Sat.pack [PH.one P (.cells (plV p A0 cA0 T0 cT0 (.slice nF p.free.length cF)) 216),mA,mT,mF] hS'
  rw [hbd.1,← hb'.1]
  exact hS2
 have Hfin:=yH hfin
 have hS:=Sat.unpack hbd hS
 clear hfin hF hf hbd hfr hA hT
 simp only [plV,List.cons_append,List.nil_append] at hS Hfin
 rw [hk0] at hS Hfin
 generalize hid:p.slots.length=id at *
 have hdec:decide ((p.room:Int)<(id:Int))=true:=by rw [decide_eq_true_eq];omega
 have hdecN:decide (p.room<id)=true:=by rw [decide_eq_true_eq];omega
 go_enter Tryz.func153,Tryz.ntmps153
 go_wp2_with (first|((with_reducible refine Qc ?_);first|((with_reducible refine Za 3 ?_);refine bx hS rfl rfl rfl ?_;clear hS;intro X w hS;(try simp only [Act.eval,zD,zC,zA,zB,zJ,Value.cells] at hS);(try simp only [Act.put,zE,zF,zG]))|((with_reducible refine Qb ?_);( (refine ld1 1 hS rfl rfl ?ha rfl rfl rfl ?_;(case ha =>  exact Kn)) );(try simp only [Act.put,zE,zF,zG])) ))
 obtain ⟨I1,_,lX,hS1,bX⟩:=hS.ice
 obtain ⟨I2,l12,lP,hS2,bP⟩:=hS1.ice
 have iP0:I2.at P 0=some (nv p.room):=PH.at_le lP (Qk rfl)
 have iP1:I2.at P 1=some (.slice (some ⟨A0,0,none⟩) id cA0):=PH.at_le lP (Qk rfl)
 have HbX:=yH bX
 have HbP:=yH bP
 clear hS hS1 bX bP lX lP l12
 refine Qx [[],[0],[0,1],[0,1,2],[0,1,2,3],[],[5],[5,6],[5,6,7],[0,1,2,3,4,5,6,7,8]] E I2 _
  [fun v _=>v=vPt P,fun v _=>v=vPt P,fun v _=>v=.pointer (some ⟨P,1,none⟩),fun v _=>v=.slice (some ⟨A0,0,none⟩) id cA0,fun v _=>v=nv id,fun v _=>v=vPt P,fun v _=>v=vPt P,fun v _=>v=.pointer (some ⟨P,0,none⟩),fun v _=>v=nv p.room,fun v _=>v=.bool true] []
  (fun _ _ _ ns=>ns=mA::mT::mF::ms) (by kernel_rfl) (by kernel_rfl) (by decide) hS2 rfl ?last (fun _ _ _ _ _ _ h=>h) (fun _ _ _ _ _ _ h=>h) ?plain ?step ?fin
 case last=>repeat (first|exact Lasting.nil|refine Lasting.cons (fun _ _ _ _ h=>h) ?_)
 case plain =>
  (repeat' (first|exact trivial|apply And.intro)) <;>  (refine .inr ?_;intro s vals J bs w hstop hg hJ hS hG;clear hG;simp only [zH,zI,Given,Facts] at hg;simp only [Qd,Qh,Qe,Qj,zH,zI,zA,zB,zK,if_true,Act.put,zE,zF,zG,hg];refine ⟨?_⟩;refine Qg (fun K hK=>?_);have HK:=yH hK;clear hK;rw [if_pos (by rfl)];(first|((with_reducible refine Qs ?_);first|((refine' Qq (v:=_) hS hJ ?ha rfl ?hc ?_);(case ha=>first|exact Zr|exact Qf);(case hc=>assumption)))|(go_wp2_with (fail)));refine HK.out _ _ ⟨rfl,J,PH.le.refl _,hS,?_⟩;clear HK;simp only [Facts];simp only [Qo,zH,zI,Act.put,zE,zF,zG,zD,zC,zA,zB,zJ])
 case step=>trivial
 case fin =>
  intro vals J bs w hJ hg hS hG
  have hG:bs=_:=hG
  subst hG
  have hS:=hS.less hJ
  have hS:=(HbX.out _ _ (HbP.out _ _ hS)).drop
  clear HbX HbP iP0 iP1
  simp only [yB,yC,Nat.reduceAdd,Below_,Facts,zH,zI,true_and] at hg;simp only [yB,yC,Nat.reduceAdd,Qd,Qh,Qe,zA,zB,zK,if_true,Act.put,zE,zF,zG,hg];refine ⟨?_⟩
  clear hg
  go_wp2_with (fail)
  go_ret2
  exact ⟨rfl,Hfin.out _ hS⟩
theorem ptake_some {E w:World} {I m:PH} {ms:List PH} {P:Nat} {p p':G.Pl} {n:G.Nd} {id:Nat} (ht:p.take n=some (some (p',id))) (hfit:Fits n) (hP:PoolAt P p m) (hS:Sat E I (m::ms) w) :
  Calls Tryz.prog 153 #[.pointer (some ⟨P,0,none⟩),ndA 0 n] w fun e w'=>e=.returned (.tuple #[nv id,.int .i64 0])∧∃ m',PoolAt P p' m'∧Sat E I (m'::ms) w':=by
 unfold G.Pl.take at ht
 cases hf:p.free.getLast? with
 | some i =>
   rw [hf] at ht
   simp only [] at ht
   split at ht
   · rename_i hc
     injection ht with ht;injection ht with ht;injection ht with h1 h2
     subst h1 h2
     refine ptake_free E w I m ms P p i n hf hc.1 hc.2.1 ?_ hfit hP hS
     have h3:=hc.2.2
     rw [yD,yA hc.2.1] at h3
     rw [yA hc.2.1]
     simp only [zJ,Option.isNone_iff_eq_none] at h3
     rw [h3]
   · cases ht
 | none =>
   rw [hf] at ht
   simp only [] at ht
   split at ht
   · cases ht
   · rename_i hc
     injection ht with ht;injection ht with ht;injection ht with h1 h2
     subst h1 h2
     exact ptake_new E w I m ms P p n (List.getLast?_eq_none_iff.1 hf) (by omega) hfit hP hS
theorem ptake_none {E w:World} {I m:PH} {ms:List PH} {P:Nat} {p:G.Pl} {n:G.Nd} (ht:p.take n=some none) (hP:PoolAt P p m) (hS:Sat E I (m::ms) w) :
  Calls Tryz.prog 153 #[.pointer (some ⟨P,0,none⟩),ndA 0 n] w fun e w'=>e=.returned (.tuple #[nv 0,.int .i64 7])∧Sat E I (m::ms) w':=by
 unfold G.Pl.take at ht
 cases hf:p.free.getLast? with
 | some i=>rw [hf] at ht;simp only [] at ht;split at ht <;> cases ht
 | none =>
   rw [hf] at ht
   simp only [] at ht
   split at ht
   · rename_i hc
     exact ptake_full E w I m ms P p n (List.getLast?_eq_none_iff.1 hf) hc hP hS
   · cases ht
theorem StAt.close {E w:World} {I:PH} {ms:List PH} {S:Nat} {s:G.St} {L P:Nat} {vV vL vT vC:Value} {gs:List Nat} {mV mL mP mT mC:PH} {tms:List PH} (h0:StFit s)
  (hV:OwnP mV 3 1 vV s.vars.length (s.vars.flatMap ivC)) (hL:OwnP mL 3 1 vL s.lev.length (s.lev.flatMap ivC)) (hP:PoolAt P s.pl mP) (hT:OwnP mT 180 1 vT s.tabs.length (gs.flatMap ptC)) (hC:OwnP mC 3 1 vC s.cnt.length (s.cnt.flatMap ivC))
  (hgs:gs.length=s.tabs.length) (htm:tms.length=s.tabs.length) (htab:∀ (v:Nat) g t tm,gs[v]?=some g→s.tabs[v]?=some t→tms[v]?=some tm→TabAt g t tm)
  (hS:Sat E I (PH.one S (.cells #[vPt L,vPt P,vT,vC,nv s.dead] 164)::PH.one L (.cells #[vV,vL] 166)::mV::mL::mP::mT::mC::(tms ++ ms)) w):∃ m',StAt S s m'∧Sat E I (m'::ms) w:=by
 obtain ⟨m',hb,h⟩:=Sat.pack (PH.one S (.cells #[vPt L,vPt P,vT,vC,nv s.dead] 164)::PH.one L (.cells #[vV,vL] 166)::mV::mL::mP::mT::mC::tms) (ms:=ms) hS
 exact ⟨m',⟨h0,L,P,vV,vL,vT,vC,gs,mV,mL,mP,mT,mC,tms,hb,hV,hL,hP,hT,hC,hgs,htm,htab⟩,h⟩
theorem iv_one (n:Nat):∀ u ∈ (Value.cells (nv n)).toList,u.oneCell'=true:=by simp [Value.cells,Value.oneCell',nv]
def rowLen (w:World) (S:Nat):Nat:=match w.cell? ⟨S,3,none⟩ with|some (.slice _ n _)=>n|_=>0
theorem rowLen_of {w:World} {S n c:Nat} {A:Option Addr} (h:w.cell? ⟨S,3,none⟩=some (.slice A n c)):rowLen w S=n:=by unfold rowLen;rw [h]
end
section
open Go.RowKit
theorem sadd_none {E w:World} {I m:PH} {ms:List PH} {S:Nat} {s:G.St} {v lo hi:Nat} (ha:s.add v lo hi=some none) (hA:StAt S s m) (hS:Sat E I (m::ms) w) :
  Calls Tryz.prog 135 #[vPt S,nv v,nv lo,nv hi] w fun e w'=>e=.returned (.tuple #[nv 0,.int .i64 7])∧∃ m',StAt S s m'∧Sat E I (m'::ms) w':=by
 obtain ⟨h0,L,P,vV,vL,vT,vC,gs,mV,mL,mP,mT,mC,tms,hbd,hV,hL,hP,hT,hC,hgs,htm,htab⟩:=hA
 have hS:=Sat.unpack hbd hS
 simp only [List.cons_append] at hS
 have ht:s.pl.take ⟨v,lo,hi,0⟩=some none:=by
  unfold G.St.add at ha
  cases ht:s.pl.take ⟨v,lo,hi,0⟩ with
  | none=>rw [ht] at ha;cases ha
  | some o =>
    cases o with
    | none=>rfl
    | some q=>obtain ⟨p,id⟩:=q;rw [ht] at ha;simp only [] at ha;split at ha <;> cases ha
 have HT:=yH ht
 have Hfin:=yH (fun w' (h:Sat E I (PH.one S (.cells #[vPt L,vPt P,vT,vC,nv s.dead] 164)::PH.one L (.cells #[vV,vL] 166)::mV::mL::mP::mT::mC::(tms ++ ms)) w')=>StAt.close h0 hV hL hP hT hC hgs htm htab h)
 have HP:=yH hP
 clear hbd hT hC hV hL h0 hP ht ha
 go_enter Tryz.func135,Tryz.ntmps135
 go_wp2_with (first|(go_at_call 153;(with_reducible refine yI (ptake_none (n:=⟨v,lo,hi,0⟩) HT.out HP.out (hS.pick 4 rfl)) ?_);clear hS;rintro e w ⟨rfl,hS⟩)|((with_reducible refine Qc ?_);  ((with_reducible refine Qb ?_);( (refine ld1 0 hS rfl rfl ?ha rfl rfl rfl ?_;(case ha =>  exact Kg )) );(try simp only [Act.put,zE,zF,zG])) ))
 go_ret2
 exact ⟨rfl,Hfin.out _ (hS.back 4 rfl)⟩
theorem sadd_some {E w:World} {I m:PH} {ms:List PH} {S:Nat} {s s':G.St} {v lo hi id:Nat} (ha:s.add v lo hi=some (some (s',id))) (hlo:lo<4611686018427387904) (hhi:hi<4611686018427387904) (hA:StAt S s m) (hS:Sat E I (m::ms) w) :
  Calls Tryz.prog 135 #[vPt S,nv v,nv lo,nv hi] w fun e w'=>e=.returned (.tuple #[nv id,.int .i64 0])∧∃ m',StAt S s' m'∧Sat E I (m'::ms) w':=by
 obtain ⟨h0,L,P,vV,vL,vT,vC,gs,mV,mL,mP,mT,mC,tms,hbd,hV,hL,hP,hT,hC,hgs,htm,htab⟩:=hA
 have hS:=Sat.unpack hbd hS
 simp only [List.cons_append] at hS
 obtain ⟨p',ht,hv,hid,hdead,hs'⟩:∃ p',s.pl.take ⟨v,lo,hi,0⟩=some (some (p',id))∧v<s.tabs.length∧id<4194304∧s.dead<4611686018427387904∧s'={ s with pl:=p',cnt:=(s.cnt ++ List.replicate (id+1 - s.cnt.length) 0).set id 0,dead:=s.dead+1,tabs:=s.tabs.set v (G.putT (s.tab v) lo hi id) }:=by
  unfold G.St.add at ha
  cases ht:s.pl.take ⟨v,lo,hi,0⟩ with
  | none=>rw [ht] at ha;cases ha
  | some o =>
    cases o with
    | none=>rw [ht] at ha;cases ha
    | some q =>
      obtain ⟨p,i⟩:=q
      rw [ht] at ha
      simp only [] at ha
      split at ha
      · rename_i hc
        injection ha with ha;injection ha with ha;injection ha with h1 h2
        subst h2
        exact ⟨p,rfl,hc.1,hc.2.1,hc.2.2,h1.symm⟩
      · cases ha
 have hfit:Fits ⟨v,lo,hi,0⟩:=⟨show v<4611686018427387904 by have:=h0.tabs;omega,hlo,hhi,show (0:Nat)<4611686018427387905 by decide⟩
 obtain ⟨T,cT,rfl,_⟩:=hT.ptr (by omega)
 obtain ⟨AC,cC,rfl,_⟩:=hC.shape
 have hg:=yA (l:=gs) (i:=v) (by omega)
 have htt:=yA (l:=s.tabs) (i:=v) hv
 have htb:s.tabs[v]=s.tab v:=by unfold G.St.tab;rw [yD,htt];rfl
 have htv:=yA (l:=tms) (i:=v) (by omega)
 have hTab:=htab v _ _ _ hg htt htv
 rw [htb] at hTab
 have iT:Cells mT T v (ptC gs[v]):=by
  have:=Ke ptC_len hT hg
  rwa [Nat.mul_one] at this
 generalize gs[v]=g at *
 generalize tms[v]=tm at *
 have hvn:v<64:=by have:=h0.tabs;omega
 have hfin:∀ (p'':G.Pl) (k:Nat) (vC':Value) (mP' mC' tm':PH) (w':World),p''=p'→k=id+1 - s.cnt.length→PoolAt P p'' mP'→TabAt g (G.putT (s.tab v) lo hi id) tm'→OwnP mC' 3 1 vC' (s.cnt.length+k) (((s.cnt ++ List.replicate k 0).set id 0).flatMap ivC) →
   Sat E I (mP'::PH.one S (.cells #[vPt L,vPt P,.slice (some ⟨T,0,none⟩) s.tabs.length cT,vC',.int .i64 ((s.dead:Int)+1)] 164)::PH.one L (.cells #[vV,vL] 166)::mV::mL::mT::mC'::(tms.set v tm' ++ ms)) w'→∃ m',StAt S s' m'∧Sat E I (m'::ms) w':=by
  rintro _ _ vC' mP' mC' tm' w' rfl rfl hP' ht' hC' hS'
  have h1:=hS'.perm (List.perm_middle (l₁:=[_,_,_,_]) (l₂:=mT::mC'::(tms.set v tm' ++ ms)) (a:=mP')).symm
  subst hs'
  have hcl:((s.cnt ++ List.replicate (id+1 - s.cnt.length) 0).set id 0).length=s.cnt.length+(id+1 - s.cnt.length):=by simp
  refine StAt.close (L:=L) (P:=P) (vV:=vV) (vL:=vL) (vT:=.slice (some ⟨T,0,none⟩) s.tabs.length cT) (vC:=vC') (mV:=mV) (mL:=mL) (mP:=mP') (mT:=mT) (mC:=mC') (gs:=gs) (tms:=tms.set v tm') ⟨h0.vars,h0.lev,by simpa using h0.tabs,by rw [hcl];have:=h0.cnt;omega,fun c hc=>?_,show s.dead+1≤4611686018427387904 by omega,h0.levb,h0.varb⟩ hV hL hP' (by simpa using hT) (by rw [hcl];exact hC') (by simpa using hgs) (by simpa using htm) (fun x gx t tmx e1 e2 e3=>?_) ?_
  · rcases List.mem_or_eq_of_mem_set hc with hc|hc
    · rcases List.mem_append.1 hc with hc|hc
      · exact h0.cntb c hc
      · rw [List.eq_of_mem_replicate hc];decide
    · rw [hc];decide
  · by_cases hx:x=v
    · subst hx
      have e2':(s.tabs.set x (G.putT (s.tab x) lo hi id))[x]?=some t:=e2
      rw [List.getElem?_set_self hv] at e2'
      rw [List.getElem?_set_self (by omega)] at e3
      rw [hg] at e1
      cases e1;cases e2';cases e3
      exact ht'
    · have e2':(s.tabs.set v (G.putT (s.tab v) lo hi id))[x]?=some t:=e2
      rw [List.getElem?_set_ne (fun e=>hx e.symm)] at e2' e3
      exact htab x gx t tmx e1 e2' e3
  · simpa [nv] using h1
 have Hfin:=yH hfin
 have HT:=yH ht
 have HTb:=yH hTab
 have HP:=yH hP
 have Hfit:=yH hfit
 have HC:=yH hC
 have HiT:=yH iT
 have htm7:∀ (a b c d e f x:PH),(a::b::c::d::e::f::x::(tms ++ ms))[7+v]?=some tm:=fun a b c d e f x=>by
  rw [show 7+v=v+1+1+1+1+1+1+1 by omega]
  simp only [zA]
  rw [List.getElem?_append_left (by omega)]
  exact htv
 have Htm:=yH htm7
 have hset:∀ (a b c d e f x tm':PH),(a::b::c::d::e::f::x::(tms ++ ms)).set (7+v) tm'=a::b::c::d::e::f::x::(tms.set v tm' ++ ms):=fun a b c d e f x tm'=>by
  rw [show 7+v=v+1+1+1+1+1+1+1 by omega]
  simp only [zF]
  rw [List.set_append_left _ _ (by omega)]
 have Hset:=yH hset
 have hcl:=h0.cnt
 clear hfin hbd hT hC hV hL h0 hP ht ha hs' hfit hTab iT htab htm htt htb htv hg hgs hset htm7
 go_enter Tryz.func135,Tryz.ntmps135
 go_wp2_with (first|(go_at_call 153;(with_reducible refine yI (ptake_some (n:=⟨v,lo,hi,0⟩) HT.out Hfit.out HP.out (hS.pick 4 rfl)) ?_);clear hS;rintro e w ⟨rfl,mP',hP',hS⟩;have HP':=yH hP';clear hP';simp only [List.eraseIdx_cons_succ,List.eraseIdx_cons_zero] at hS)|((with_reducible refine Qc ?_);  ((with_reducible refine Qb ?_);( (refine ld1 0 hS rfl rfl ?ha rfl rfl rfl ?_;(case ha =>  exact Kg )) );(try simp only [Act.put,zE,zF,zG])) ))
 generalize hn:s.cnt.length=n at *
 go_loopw [] (fun wr=>∃ (k:Nat) (vC':Value) (mC':PH),(n+k≤n∨n+k≤id+1)∧OwnP mC' 3 1 vC' (n+k) ((s.cnt ++ List.replicate k 0).flatMap ivC)∧Sat E I (mP'::PH.one S (.cells #[vPt L,vPt P,.slice (some ⟨T,0,none⟩) s.tabs.length cT,vC',nv s.dead] 164)::PH.one L (.cells #[vV,vL] 166)::mV::mL::mT::mC'::(tms ++ ms)) wr) (fun wr=>id+1 - rowLen wr S)
 case atStart=>exact ⟨0,_,mC,.inl (by omega),by simpa using HC.out,hS⟩
 case round =>
  clear hS
  obtain ⟨k,vC',mC',hk,hC',hS⟩:=hrel
  obtain ⟨A',c',rfl,_⟩:=hC'.shape
  have HC':=yH hC'
  clear hC'
  have hrow:rowLen wr S=n+k:=by
   exact rowLen_of ((hS.cell_of (.tail _ (.head _)) 3).trans rfl)
  rw [hrow]
  by_cases hlt:n+k≤id
  · have hlt':decide (((n+k:Nat):Int)≤(id:Int))=true:=by rw [decide_eq_true_eq];omega
    generalize hnk:n+k=nk at *
    go_wp2_with (first|((with_reducible refine isAppend ?_);(refine' apP (p:=_) (m:=_) (v:=_) (n:=_) (xs:=_) (news:=_) 7 (.inr (List.Mem.head _)) hS rfl rfl rfl Tryz.underlying23 int_info rfl (by decide) rfl HC'.out rfl ?hl ?hcl ?h1 ?h63 ?hby ?_);(case hcl=>exact Cells.one _ _ _ _);(case hl=>rfl);(case h1=>rfl);(case h63=>(unfold maxLen;omega));(case hby=>omega);clear hS;intro v1 m1 w hO1 hS;refine Veil.out ?_;obtain ⟨A1,c1,rfl,_⟩:=OwnP.shape hO1;refine ⟨?_⟩;have HO1:=yH hO1;clear hO1;(try simp only [zF,zG] at hS);(try simp only [Act.put,zE,zF,zG]))|((with_reducible refine Qc ?_);first|((with_reducible refine Qb ?_);( (refine ld1 1 hS rfl rfl ?ha rfl rfl rfl ?_;(case ha =>  exact Kn )) );(try simp only [Act.put,zE,zF,zG]))|((with_reducible refine Qn ?_);( (refine st1 2 hS rfl rfl rfl rfl rfl ?ha rfl rfl ?hb ?_;(case ha =>  exact ty_sz23);(case hb=>(simp;done))));clear hS;intro w hS;(try simp only [zF,zG,zE,Act.eval,zD,zC,zA,zB,zJ] at hS);(try simp only [Act.put]))|((with_reducible refine Kq ?_);(refine' bsl hS ?hr ?_);(case hr=>(intro w0;go_simp;rfl));clear hS;intro XS w hS;(try simp only [Act.eval,zD,zC,zA,zB,zJ,Value.cells] at hS);(try simp only [Act.put,zE,zF,zG]))))
    have hS:=hS.drop
    refine ⟨⟨k+1,_,m1,.inr (by omega),?_,hS⟩,?_⟩
    · have:=HO1.out
      rw [show n+(k+1)=nk+1 by omega,List.replicate_succ',← List.append_assoc,List.flatMap_append]
      exact this
    · have:rowLen w S=nk+1:=by
        exact rowLen_of ((hS.cell_of (.tail _ (.head _)) 3).trans rfl)
      omega
  · have hlt':decide (((n+k:Nat):Int)≤(id:Int))=false:=by rw [decide_eq_false_iff_not];omega
    have hkk:k=id+1 - n:=by omega
    have hidl:id<n+k:=by omega
    obtain ⟨X,cX,hX,_⟩:=HC'.out.ptr (by omega)
    injection hX with hX _ hX2
    subst hX hX2
    generalize hnk:n+k=nk at *
    have hi2:(id:Int)<(nk:Int):=by omega
    go_wp2_with (first|((with_reducible refine Qn ?_);(refine st_row 6 hS rfl rfl rfl rfl rfl HC'.out (Nat.mul_one id).symm hidl Kk rfl (iv_one 0) ?_);clear hS;intro mC2 w hC2 hS;have HC2:=yH hC2;clear hC2;(try simp only [zF,zG] at hS);(try simp only [Act.put]))|((with_reducible refine Qb ?_);(refine' ldP1 (v:=vPt g) (.inr (List.Mem.tail _ (List.Mem.tail _ (List.Mem.tail _ (List.Mem.tail _ (List.Mem.tail _ (List.Mem.head _))))))) hS rfl rfl Kx rfl (HiT.out.at 0 rfl) ?_);(try simp only [Act.put,zE,zF,zG]))|(go_at_call 148;(with_reducible refine yI (tput_any HTb.out lo hi id (hS.pick (7+v) (Htm.out _ _ _ _ _ _ _))) ?_);clear hS;rintro e w ⟨⟨c9,rfl⟩,tm',hT',hS⟩;have HT':=yH hT';clear hT')|((with_reducible refine Qc ?_);first|((with_reducible refine Qb ?_);( (refine ld1 1 hS rfl rfl ?ha rfl rfl rfl ?_;(case ha=>first|exact Qf|exact Kn|exact Zi )) );(try simp only [Act.put,zE,zF,zG]))|((with_reducible refine Qn ?_);( (refine st1 1 hS rfl rfl rfl rfl rfl ?ha rfl rfl ?hb ?_;(case ha =>  exact Kk );(case hb=>(simp;done))));clear hS;intro w hS;(try simp only [zF,zG,zE,Act.eval,zD,zC,zA,zB,zJ] at hS);(try simp only [Act.put]))))
    go_ret2
    have hS2:=hS.back (7+v) (Htm.out _ _ _ _ _ _ _)
    rw [Hset.out] at hS2
    refine ⟨rfl,Hfin.out _ k _ _ _ _ _ rfl hkk HP'.out HT'.out ?_ hS2⟩
    have:=HC2.out
    rw [← flat_set Zn _ _ (by simp;omega)]
    rw [Nat.mul_one,hnk]
    exact this
end
end Go.Proofs.YtidamcdklgfogaaGreat
