import Derived.Test.YtidamcdklgfogaaGreatZab
import Derived.Test.YtidamcdklgfogaaGreatZaq
import Derived.Laws.StructEq
import Derived.ChangeKeysEq
set_option linter.unusedSimpArgs false
set_option linter.unusedVariables false
set_option maxRecDepth 100000
set_option maxHeartbeats 4000000
namespace Go.Proofs.YtidamcdklgfogaaGreat
section
open Go.RowKit
theorem fo_key : (Tryz.prog.fieldsOf 207).toList.map (fun f => (f.name, f.type, f.offset)) = [("op", 3, 0), ("edges", 205, 1)] := by kernel_rfl
theorem eq_arr3 (w:World) (x1 x2 x3 y1 y2 y3:Int):(Op.equalIn 9999 205 (.agg #[.int .i64 x1,.int .i64 x2,.int .i64 x3]) (.agg #[.int .i64 y1,.int .i64 y2,.int .i64 y3])).run Tryz.prog w=.ok (decide (x1=y1∧x2=y2∧x3=y3)) w:=by
 have hi:(Tryz.prog.info? 102).isSome=true:=by kernel_rfl
 obtain ⟨i,hi⟩:=yF.1 hi
 have hu:Tryz.prog.underlying 205=some (.array 3 102):=by kernel_rfl
 have he:Tryz.prog.underlying 102=some (.int .i64):=by kernel_rfl
 have hc:Tryz.prog.cellsOf 102=1:=by kernel_rfl
 rw [show (9999:Nat)=9998+1 from rfl,run_equalIn_array w 9998 _ _ hu hi,hc]
 have hA:∀ w,(isAgg 102).run Tryz.prog w=.ok false w:=fun w=>by simp [isAgg,run_underlying he]
 have hE:∀ (w:World) (a b:Int),(Op.equalIn 9998 102 (.int .i64 a) (.int .i64 b)).run Tryz.prog w=.ok (a == b) w:=fun w a b=>by
  rw [show (9998:Nat)=9997+1 from rfl]
  unfold Op.equalIn
  simp only [Sem.run_bind,run_underlying he,Result.andThen_ok,if_true,Sem.run_pure]
 simp only [show List.range 3=[0,1,2] from rfl,Op.eqItems]
 by_cases h1:x1=y1 <;> by_cases h2:x2=y2 <;> by_cases h3:x3=y3 <;> simp [h1,h2,h3,part,hA,hE]
theorem eq_key (w:World) (x0 x1 x2 x3 y0 y1 y2 y3:Int):(Op.equal 207 (.agg #[.int .i64 x0,.int .i64 x1,.int .i64 x2,.int .i64 x3]) (.agg #[.int .i64 y0,.int .i64 y1,.int .i64 y2,.int .i64 y3])).run Tryz.prog w=.ok (decide (x0=y0∧x1=y1∧x2=y2∧x3=y3)) w:=by
 have hp:Tryz.prog.stoodInHeld 207=false:=by kernel_rfl
 have ht:Tryz.prog.underlying 207=some (.struct (Tryz.prog.fieldsOf 207)):=by kernel_rfl
 unfold Op.equal Op.maxDepth
 rw [show (10000:Nat)=9999+1 from rfl,run_equalIn_struct w 9999 _ _ _ ht hp]
 have hf:=fo_key
 generalize (Tryz.prog.fieldsOf 207).toList=fs at *
 obtain ⟨f,fs1,rfl,hf1,hf2⟩:=List.map_eq_cons_iff.1 hf
 obtain ⟨g,fs2,rfl,hg1,hg2⟩:=List.map_eq_cons_iff.1 hf2
 have hg2:=List.map_eq_nil_iff.1 hg2
 subst hg2
 simp only [Prod.mk.injEq] at hf1 hg1
 obtain ⟨f1,f2,f3⟩:=hf1
 obtain ⟨g1,g2,g3⟩:=hg1
 have he:Tryz.prog.underlying 3=some (.int .i64):=by kernel_rfl
 have hA:∀ w,(isAgg 3).run Tryz.prog w=.ok false w:=fun w=>by simp [isAgg,run_underlying he]
 have hu:Tryz.prog.underlying 205=some (.array 3 102):=by kernel_rfl
 have hB:∀ w,(isAgg 205).run Tryz.prog w=.ok true w:=fun w=>by simp [isAgg,run_underlying hu]
 have hS:∀ w,(sizeOf 205).run Tryz.prog w=.ok 3 w:=fun w=>by kernel_rfl
 have hE:∀ (w:World) (a b:Int),(Op.equalIn 9999 3 (.int .i64 a) (.int .i64 b)).run Tryz.prog w=.ok (a == b) w:=fun w a b=>by
  rw [show (9999:Nat)=9998+1 from rfl]
  unfold Op.equalIn
  simp only [Sem.run_bind,run_underlying he,Result.andThen_ok,if_true,Sem.run_pure]
 by_cases h0:x0=y0 <;> by_cases h1:x1=y1 <;> by_cases h2:x2=y2 <;> by_cases h3:x3=y3 <;> simp [Op.eqFields,f1,f2,f3,g1,g2,g3,part,hA,hB,hE,hS,h0,h1,h2,h3,eq_arr3]
theorem egt_key:Tryz.prog.eqGuardType Tryz.prog.depth 207=false:=by kernel_rfl
theorem neq_key (w:World) (x0 x1 x2 x3 y0 y1 y2 y3:Int):(binOp .neq 207 (.agg #[.int .i64 x0,.int .i64 x1,.int .i64 x2,.int .i64 x3]) (.agg #[.int .i64 y0,.int .i64 y1,.int .i64 y2,.int .i64 y3])).run Tryz.prog w=.ok (.bool (!decide (x0=y0∧x1=y1∧x2=y2∧x3=y3))) w:=by
 simp only [binOp,Sem.run_bind,eq_key,Result.andThen_ok,Sem.run_pure]
theorem quiet_bin {P:Program} {a:Act} {C:World→Prop} {K:Act→Prop} {o:Oper} {b:BinOp} {T U:TypeId} {x y:Operand} {v u r:Value} (ho:o.op=.binOp b T x y U) (hx:a.eval x=v) (hy:a.eval y=u) (hg:∀ w,(eqGuard b T x y v u).run P w=.ok () w) (hr:∀ w,(binOp b T v u).run P w=.ok r w) (hk:K (a.put o.dst r)):o.quiet P a C K :=
 ⟨r,fun w _=>by
   unfold Oper.quietAt execOp
   simp only [ho,hx,hy,Sem.run_bind,hg,hr,Result.andThen_ok,Sem.run_pure]
   exact ⟨rfl,rfl⟩,hk⟩
theorem memo_cell {me:G.Memo} {mE:PH} {A c:Nat} (hO:OwnP mE 211 6 (.slice (some ⟨A,0,none⟩) 4096 c) 4096 ((List.range 4096).flatMap fun i=>meC (me i))) {i:Nat} (hi:i<4096):Cells mE A (i * 6) (meC (me i)):=by
 have h:((List.range 4096).flatMap fun i=>meC (me i))=((List.range 4096).map me).flatMap meC:=by rw [List.flatMap_map]
 rw [h] at hO
 exact Ke meC_len hO (by rw [List.getElem?_map,List.getElem?_range hi];rfl)
theorem placeH_lt (op a b d:Nat):G.placeH op a b d<4096:=by unfold G.placeH;exact Nat.mod_lt _ (by omega)
theorem mget_none {E w:World} {I mE:PH} {ms:List PH} {X A c ix:Nat} {ak fd:Int} (op a b d:Nat) (h0:op<4611686018427387904) (h1:a<4611686018427387904) (h2:b<4611686018427387904) (h3:d<4611686018427387904) (hc:Cells mE A (ix * 6) (meC none))
  (HPl:Hid (∀ W:World,(Qa W).at X 1=some (.slice (some ⟨A,0,none⟩) 4096 c)→Calls Tryz.prog 136 #[vPt X,keyV op a b d] W fun e w'=>e=.returned (.pointer (some ⟨A,ix * 6,none⟩))∧Below W.heap.size W w'))
  (hS:Sat E I (PH.one X (.cells #[.int .i64 4096,.slice (some ⟨A,0,none⟩) 4096 c,.int .i64 ak,.int .i64 fd] 184)::mE::ms) w) :
  Calls Tryz.prog 107 #[vPt X,nv op,nv a,nv b,nv d] w fun e' w'=>e'=.returned (.tuple #[.int .i64 0,.bool false])∧∃ ak fd:Int,Sat E I (PH.one X (.cells #[.int .i64 4096,.slice (some ⟨A,0,none⟩) 4096 c,.int .i64 ak,.int .i64 fd] 184)::mE::ms) w':=by
 go_enter Tryz.func107,Tryz.ntmps107
 go_wp2_with (first|(go_at_call 136;(with_reducible refine yI (HPl.out _ (PH.at_le (hS.mle (k:=1) rfl) (Qk rfl))) ?_);rintro e w ⟨rfl,hb⟩;replace hS:=hS.below_ hb;clear hb)|((with_reducible refine Qc ?_);first|((with_reducible refine Ql 12 ?_);(refine' al (z:=_) hS rfl rfl ?ha ?_);(case ha=>exact ty_z207);clear hS;intro X12 w hS;(try simp only [Value.cells] at hS);(try simp only [Act.put,zE,zF,zG]))|((with_reducible refine Qb ?_);(first|(refine ld1 0 hS rfl rfl ?ha rfl rfl rfl ?_;(case ha=>first|exact Qf|exact Yu))|(refine ldN 0 hS rfl rfl ?ha rfl rfl ?hb ?_;(case ha=>exact ty_agg207);(case hb=>exact Yo)) );(try simp only [Act.put,zE,zF,zG]))|((with_reducible refine Qn ?_);(first|(refine st1 0 hS rfl rfl rfl rfl rfl ?ha rfl rfl ?hb ?_;(case ha=>exact Kk);(case hb=>(simp;done)))|(refine stN 0 hS rfl rfl rfl rfl rfl ?ha rfl rfl ?_;(case ha=>exact Yo)) );clear hS;intro w hS;(try simp only [zF,zG,zE,Act.eval,zD,zC,zA,zB,zJ,Value.cells] at hS);(try simp only [Act.put])) ))
 have x5:w.cell? ⟨A,ix * 6+5,none⟩=some (.bool false):=Kb (hS.mle (k:=2) rfl) (hc.at 5 rfl)
 go_quiet (fail)
 replace hS:=hS.drewN nq
 clear x5
 go_wp2_with (fail)
 go_ret2
 exact ⟨rfl,_,_,hS.drop⟩
theorem mget_hit {E w:World} {I mE:PH} {ms:List PH} {X A c ix:Nat} {ak fd:Int} {e:G.Me} (op a b d:Nat) (h0:op<4611686018427387904) (h1:a<4611686018427387904) (h2:b<4611686018427387904) (h3:d<4611686018427387904) (hk:e.op=op∧e.a=a∧e.b=b∧e.c=d) (hc:Cells mE A (ix * 6) (meC (some e)))
  (HPl:Hid (∀ W:World,(Qa W).at X 1=some (.slice (some ⟨A,0,none⟩) 4096 c)→Calls Tryz.prog 136 #[vPt X,keyV op a b d] W fun e w'=>e=.returned (.pointer (some ⟨A,ix * 6,none⟩))∧Below W.heap.size W w'))
  (hS:Sat E I (PH.one X (.cells #[.int .i64 4096,.slice (some ⟨A,0,none⟩) 4096 c,.int .i64 ak,.int .i64 fd] 184)::mE::ms) w) :
  Calls Tryz.prog 107 #[vPt X,nv op,nv a,nv b,nv d] w fun e' w'=>e'=.returned (.tuple #[nv e.r,.bool true])∧∃ ak fd:Int,Sat E I (PH.one X (.cells #[.int .i64 4096,.slice (some ⟨A,0,none⟩) 4096 c,.int .i64 ak,.int .i64 fd] 184)::mE::ms) w':=by
 obtain ⟨rfl,rfl,rfl,rfl⟩:=hk
 go_enter Tryz.func107,Tryz.ntmps107
 go_wp2_with (first|(go_at_call 136;(with_reducible refine yI (HPl.out _ (PH.at_le (hS.mle (k:=1) rfl) (Qk rfl))) ?_);rintro e w ⟨rfl,hb⟩;replace hS:=hS.below_ hb;clear hb)|((with_reducible refine Qc ?_);first|((with_reducible refine Ql 12 ?_);(refine' al (z:=_) hS rfl rfl ?ha ?_);(case ha=>exact ty_z207);clear hS;intro X12 w hS;(try simp only [Value.cells] at hS);(try simp only [Act.put,zE,zF,zG]))|((with_reducible refine Qb ?_);(first|(refine ld1 0 hS rfl rfl ?ha rfl rfl rfl ?_;(case ha=>first|exact Qf|exact Yu))|(refine ldN 0 hS rfl rfl ?ha rfl rfl ?hb ?_;(case ha=>exact ty_agg207);(case hb=>exact Yo)) );(try simp only [Act.put,zE,zF,zG]))|((with_reducible refine Qn ?_);(first|(refine st1 0 hS rfl rfl rfl rfl rfl ?ha rfl rfl ?hb ?_;(case ha=>exact Kk);(case hb=>(simp;done)))|(refine stN 0 hS rfl rfl rfl rfl rfl ?ha rfl rfl ?_;(case ha=>exact Yo)) );clear hS;intro w hS;(try simp only [zF,zG,zE,Act.eval,zD,zC,zA,zB,zJ,Value.cells] at hS);(try simp only [Act.put])) ))
 have x5:w.cell? ⟨A,ix * 6+5,none⟩=some (.bool true):=Kb (hS.mle (k:=2) rfl) (hc.at 5 rfl)
 have x0:w.cell? ⟨A,ix * 6,none⟩=some (nv e.op):=Kb (hS.mle (k:=2) rfl) (by have:=hc.at 0 rfl;rwa [Nat.add_zero] at this)
 have x1:w.cell? ⟨A,ix * 6+1,none⟩=some (nv e.a):=Kb (hS.mle (k:=2) rfl) (hc.at 1 rfl)
 have x2:w.cell? ⟨A,ix * 6+2,none⟩=some (nv e.b):=Kb (hS.mle (k:=2) rfl) (hc.at 2 rfl)
 have x3:w.cell? ⟨A,ix * 6+3,none⟩=some (nv e.c):=Kb (hS.mle (k:=2) rfl) (hc.at 3 rfl)
 have y0:w.cell? ⟨X12,0,none⟩=some (nv e.op):=hS.cell_of (.head _) 0
 have y1:w.cell? ⟨X12,1,none⟩=some (nv e.a):=hS.cell_of (.head _) 1
 have y2:w.cell? ⟨X12,2,none⟩=some (nv e.b):=hS.cell_of (.head _) 2
 have y3:w.cell? ⟨X12,3,none⟩=some (nv e.c):=hS.cell_of (.head _) 3
 refine wp_region_quiet_lit (by kernel_rfl) (by kernel_rfl) ?_
 repeat (go_big_quiet_step (fail))
 go_big_quiet_want
 refine quiet_bin (r:=.bool false) rfl rfl rfl (fun w=>run_eqGuard_agg w _ _ _ _ _ _ egt_key) (fun w=>(neq_key w _ _ _ _ _ _ _ _).trans (by rw [decide_eq_true ⟨rfl,rfl,rfl,rfl⟩];rfl)) ?_
 (try simp only [Act.put,zE,zF,zG])
 go_big_quiet_on
 repeat (go_big_quiet_step (fail))
 refine wpQuiet_nil ?_
 intro _ hw'
 obtain ⟨nq,hw''⟩:=hw'
 subst hw''
 replace hS:=hS.drewN nq
 clear x5 x0 x1 x2 x3 y0 y1 y2 y3
 go_wp2_with (first|((with_reducible refine Qb ?_);(refine' ldP1 (v:=nv e.r) (.inr (List.Mem.tail _ (List.Mem.tail _ (List.Mem.head _)))) hS rfl rfl Ki rfl (hc.at 4 rfl) ?_);(try simp only [Act.put,zE,zF,zG]))|((with_reducible refine Qc ?_);first|((with_reducible refine Qb ?_);( (refine ld1 1 hS rfl rfl ?ha rfl rfl rfl ?_;(case ha =>  exact Qf )) );(try simp only [Act.put,zE,zF,zG]))|((with_reducible refine Qn ?_);( (refine st1 1 hS rfl rfl rfl rfl rfl ?ha rfl rfl ?hb ?_;(case ha=>exact Kk);(case hb=>(simp;done))) );clear hS;intro w hS;(try simp only [zF,zG,zE,Act.eval,zD,zC,zA,zB,zJ] at hS);(try simp only [Act.put])) ))
 go_ret2
 exact ⟨rfl,_,_,hS.drop⟩
theorem mget_miss {E w:World} {I mE:PH} {ms:List PH} {X A c ix:Nat} {ak fd:Int} {e:G.Me} (op a b d:Nat) (h0:op<4611686018427387904) (h1:a<4611686018427387904) (h2:b<4611686018427387904) (h3:d<4611686018427387904) (hk:¬ (e.op=op∧e.a=a∧e.b=b∧e.c=d)) (hc:Cells mE A (ix * 6) (meC (some e)))
  (HPl:Hid (∀ W:World,(Qa W).at X 1=some (.slice (some ⟨A,0,none⟩) 4096 c)→Calls Tryz.prog 136 #[vPt X,keyV op a b d] W fun e w'=>e=.returned (.pointer (some ⟨A,ix * 6,none⟩))∧Below W.heap.size W w'))
  (hS:Sat E I (PH.one X (.cells #[.int .i64 4096,.slice (some ⟨A,0,none⟩) 4096 c,.int .i64 ak,.int .i64 fd] 184)::mE::ms) w) :
  Calls Tryz.prog 107 #[vPt X,nv op,nv a,nv b,nv d] w fun e' w'=>e'=.returned (.tuple #[.int .i64 0,.bool false])∧∃ ak fd:Int,Sat E I (PH.one X (.cells #[.int .i64 4096,.slice (some ⟨A,0,none⟩) 4096 c,.int .i64 ak,.int .i64 fd] 184)::mE::ms) w':=by
 go_enter Tryz.func107,Tryz.ntmps107
 go_wp2_with (first|(go_at_call 136;(with_reducible refine yI (HPl.out _ (PH.at_le (hS.mle (k:=1) rfl) (Qk rfl))) ?_);rintro e w ⟨rfl,hb⟩;replace hS:=hS.below_ hb;clear hb)|((with_reducible refine Qc ?_);first|((with_reducible refine Ql 12 ?_);(refine' al (z:=_) hS rfl rfl ?ha ?_);(case ha=>exact ty_z207);clear hS;intro X12 w hS;(try simp only [Value.cells] at hS);(try simp only [Act.put,zE,zF,zG]))|((with_reducible refine Qb ?_);(first|(refine ld1 0 hS rfl rfl ?ha rfl rfl rfl ?_;(case ha=>first|exact Qf|exact Yu))|(refine ldN 0 hS rfl rfl ?ha rfl rfl ?hb ?_;(case ha=>exact ty_agg207);(case hb=>exact Yo)) );(try simp only [Act.put,zE,zF,zG]))|((with_reducible refine Qn ?_);(first|(refine st1 0 hS rfl rfl rfl rfl rfl ?ha rfl rfl ?hb ?_;(case ha=>exact Kk);(case hb=>(simp;done)))|(refine stN 0 hS rfl rfl rfl rfl rfl ?ha rfl rfl ?_;(case ha=>exact Yo)) );clear hS;intro w hS;(try simp only [zF,zG,zE,Act.eval,zD,zC,zA,zB,zJ,Value.cells] at hS);(try simp only [Act.put])) ))
 have x5:w.cell? ⟨A,ix * 6+5,none⟩=some (.bool true):=Kb (hS.mle (k:=2) rfl) (hc.at 5 rfl)
 have x0:w.cell? ⟨A,ix * 6,none⟩=some (nv e.op):=Kb (hS.mle (k:=2) rfl) (by have:=hc.at 0 rfl;rwa [Nat.add_zero] at this)
 have x1:w.cell? ⟨A,ix * 6+1,none⟩=some (nv e.a):=Kb (hS.mle (k:=2) rfl) (hc.at 1 rfl)
 have x2:w.cell? ⟨A,ix * 6+2,none⟩=some (nv e.b):=Kb (hS.mle (k:=2) rfl) (hc.at 2 rfl)
 have x3:w.cell? ⟨A,ix * 6+3,none⟩=some (nv e.c):=Kb (hS.mle (k:=2) rfl) (hc.at 3 rfl)
 have y0:w.cell? ⟨X12,0,none⟩=some (nv op):=hS.cell_of (.head _) 0
 have y1:w.cell? ⟨X12,1,none⟩=some (nv a):=hS.cell_of (.head _) 1
 have y2:w.cell? ⟨X12,2,none⟩=some (nv b):=hS.cell_of (.head _) 2
 have y3:w.cell? ⟨X12,3,none⟩=some (nv d):=hS.cell_of (.head _) 3
 refine wp_region_quiet_lit (by kernel_rfl) (by kernel_rfl) ?_
 repeat (go_big_quiet_step (fail))
 go_big_quiet_want
 refine quiet_bin (r:=.bool true) rfl rfl rfl (fun w=>run_eqGuard_agg w _ _ _ _ _ _ egt_key) (fun w=>(neq_key w _ _ _ _ _ _ _ _).trans (by rw [decide_eq_false (fun h=>hk ⟨by omega,by omega,by omega,by omega⟩)];rfl)) ?_
 (try simp only [Act.put,zE,zF,zG])
 go_big_quiet_on
 repeat (go_big_quiet_step (fail))
 refine wpQuiet_nil ?_
 intro _ hw'
 obtain ⟨nq,hw''⟩:=hw'
 subst hw''
 replace hS:=hS.drewN nq
 clear x5 x0 x1 x2 x3 y0 y1 y2 y3
 go_wp2_with (fail)
 go_ret2
 exact ⟨rfl,_,_,hS.drop⟩
theorem mget_any {E w:World} {I p:PH} {ms:List PH} {X:Nat} {me:G.Memo} (op a b d:Nat) (h0:op<4611686018427387904) (h1:a<4611686018427387904) (h2:b<4611686018427387904) (h3:d<4611686018427387904) (hA:Yj X me p) (hS:Sat E I (p::ms) w) :
  Calls Tryz.prog 107 #[vPt X,nv op,nv a,nv b,nv d] w fun e w'=>e=.returned (match me.get op a b d with|some r=>.tuple #[nv r,.bool true]|none=>.tuple #[.int .i64 0,.bool false])∧∃ p',Yj X me p'∧Sat E I (p'::ms) w':=by
 obtain ⟨hf,vE,mE,ak,fd,hbd,hcase⟩:=hA
 replace hS:=Sat.unpack hbd hS
 simp only [List.cons_append,List.nil_append] at hS
 have pack:∀ (ak fd:Int) (w':World),Sat E I (PH.one X (.cells #[.int .i64 4096,vE,.int .i64 ak,.int .i64 fd] 184)::mE::ms) w'→∃ p',Yj X me p'∧Sat E I (p'::ms) w':=fun ak fd w' h=>by
  obtain ⟨q,hb,hq⟩:=Sat.pack [PH.one X (.cells #[.int .i64 4096,vE,.int .i64 ak,.int .i64 fd] 184),mE] h
  exact ⟨q,⟨hf,vE,mE,ak,fd,hb,hcase⟩,hq⟩
 have HPk:=yH pack
 clear pack hbd
 rcases hcase with ⟨rfl,rfl,rfl⟩|⟨A,c,rfl,hO⟩
 · have hg:G.Memo.none.get op a b d=none:=G.Memo.none_get op a b d
   rw [hg]
   clear hf hg
   go_enter Tryz.func107,Tryz.ntmps107
   go_wp2_with (first|((with_reducible refine Qc ?_);first|((with_reducible refine Qb ?_);( (refine ld1 0 hS rfl rfl ?ha rfl rfl rfl ?_;(case ha=>first|exact Qf|exact Yu)) );(try simp only [Act.put,zE,zF,zG]))|((with_reducible refine Qn ?_);( (refine st1 0 hS rfl rfl rfl rfl rfl ?ha rfl rfl ?hb ?_;(case ha=>exact Kk);(case hb=>(simp;done))) );clear hS;intro w hS;(try simp only [zF,zG,zE,Act.eval,zD,zC,zA,zB,zJ] at hS);(try simp only [Act.put]))))
   go_ret2
   exact ⟨rfl,HPk.out _ _ _ hS⟩
 · have hlt:=placeH_lt op a b d
   have hc:=memo_cell hO hlt
   have HO:=yH hO
   have HPl:=yH (fun (W:World) (hX:(Qa W).at X 1=some (.slice (some ⟨A,0,none⟩) 4096 c))=>place_any hX op a b d h0 h1 h2 h3)
   clear hO hf
   cases ho:me (G.placeH op a b d) with
   | none =>
     rw [G.Memo.get_none ho]
     rw [ho] at hc
     refine (mget_none op a b d h0 h1 h2 h3 hc HPl hS).mono ?_
     rintro e w ⟨rfl,ak,fd,hS⟩
     exact ⟨rfl,HPk.out _ _ _ hS⟩
   | some e =>
     rw [ho] at hc
     by_cases hk:e.op=op∧e.a=a∧e.b=b∧e.c=d
     · rw [G.Memo.get_hit ho hk]
       refine (mget_hit op a b d h0 h1 h2 h3 hk hc HPl hS).mono ?_
       rintro e w ⟨rfl,ak,fd,hS⟩
       exact ⟨rfl,HPk.out _ _ _ hS⟩
     · rw [G.Memo.get_miss ho hk]
       refine (mget_miss op a b d h0 h1 h2 h3 hk hc HPl hS).mono ?_
       rintro e w ⟨rfl,ak,fd,hS⟩
       exact ⟨rfl,HPk.out _ _ _ hS⟩
end
end Go.Proofs.YtidamcdklgfogaaGreat
