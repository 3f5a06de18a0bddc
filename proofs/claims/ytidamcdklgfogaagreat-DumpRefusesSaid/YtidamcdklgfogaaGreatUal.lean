import Derived.Test.YtidamcdklgfogaaGreatUak
import Derived.Laws.StructEq
import Derived.BigFrame
set_option linter.unusedVariables false
set_option linter.unusedSimpArgs false
set_option maxRecDepth 100000
set_option maxHeartbeats 4000000
namespace Go.Proofs.YtidamcdklgfogaaGreat
section
open Go.RowKit
theorem fo_key : (Tryz.prog.fieldsOf 207).toList.map (λf => (f.name, f.type, f.offset)) = [("op", 3, 0), ("edges", 205, 1)] := by kernel_rfl
theorem eq_arr3(w:World)(x1 x2 x3 y1 y2 y3:Int):(Op.equalIn 9999 205 (.agg #[.int .i64 x1,.int .i64 x2,.int .i64 x3]) (.agg #[.int .i64 y1,.int .i64 y2,.int .i64 y3])).run Tryz.prog w=.ok (decide (x1=y1/\x2=y2/\x3=y3)) w:=by
 have hi:(Tryz.prog.info? 102).isSome=true:=by kernel_rfl
 obtain⟨i,hi⟩:=yF.1 hi;have hu:Tryz.prog.underlying 205=some (.array 3 102):=by kernel_rfl
 have he:Tryz.prog.underlying 102=some (.int .i64):=by kernel_rfl
 have hc:Tryz.prog.cellsOf 102=1:=by kernel_rfl
 rw[show (9999:Nat)=9998+1 from rfl,run_equalIn_array w 9998 _ _ hu hi,hc];have hA:∀w,(isAgg 102).run Tryz.prog w=.ok false w:=λw=>by simp[isAgg,run_underlying he]
 have hE:∀(w:World) (a b:Int),(Op.equalIn 9998 102 (.int .i64 a) (.int .i64 b)).run Tryz.prog w=.ok (a==b) w:=λw a b=>by
  rw[show (9998:Nat)=9997+1 from rfl];unfold Op.equalIn;simp only[Sem.run_bind,run_underlying he,Result.andThen_ok,jEb,Sem.run_pure]
 simp only[show List.range 3=[0,1,2] from rfl,Op.eqItems];by_cases h1:x1=y1 <;> by_cases h2:x2=y2 <;> by_cases h3:x3=y3 <;> simp[h1,h2,h3,part,hA,hE]
theorem eq_key(w:World)(x0 x1 x2 x3 y0 y1 y2 y3:Int):(Op.equal 207 (.agg #[.int .i64 x0,.int .i64 x1,.int .i64 x2,.int .i64 x3]) (.agg #[.int .i64 y0,.int .i64 y1,.int .i64 y2,.int .i64 y3])).run Tryz.prog w=.ok (decide (x0=y0/\x1=y1/\x2=y2/\x3=y3)) w:=by
 have hp:Tryz.prog.stoodInHeld 207=false:=by kernel_rfl
 have ht:Tryz.prog.underlying 207=some (.struct (Tryz.prog.fieldsOf 207)):=by kernel_rfl
 unfold Op.equal Op.maxDepth;rw[show (10000:Nat)=9999+1 from rfl,run_equalIn_struct w 9999 _ _ _ ht hp];have hf:=fo_key;generalize (Tryz.prog.fieldsOf 207).toList=fs at *
 obtain⟨f,fs1,rfl,hf1,hf2⟩:=List.map_eq_cons_iff.1 hf;obtain⟨g,fs2,rfl,hg1,hg2⟩:=List.map_eq_cons_iff.1 hf2;have hg2:=List.map_eq_nil_iff.1 hg2;subst hg2;simp only[jIa] at hf1 hg1;obtain⟨f1,f2,f3⟩:=hf1;obtain⟨g1,g2,g3⟩:=hg1;have he:Tryz.prog.underlying 3=some (.int .i64):=by kernel_rfl
 have hA:∀w,(isAgg 3).run Tryz.prog w=.ok false w:=λw=>by simp[isAgg,run_underlying he]
 have hu:Tryz.prog.underlying 205=some (.array 3 102):=by kernel_rfl
 have hB:∀w,(isAgg 205).run Tryz.prog w=.ok true w:=λw=>by simp[isAgg,run_underlying hu]
 have hS:∀w,(sizeOf 205).run Tryz.prog w=.ok 3 w:=λw=>by kernel_rfl
 have hE:∀(w:World) (a b:Int),(Op.equalIn 9999 3 (.int .i64 a) (.int .i64 b)).run Tryz.prog w=.ok (a==b) w:=λw a b=>by
  rw[show (9999:Nat)=9998+1 from rfl];unfold Op.equalIn;simp only[Sem.run_bind,run_underlying he,Result.andThen_ok,jEb,Sem.run_pure]
 by_cases h0:x0=y0 <;> by_cases h1:x1=y1 <;> by_cases h2:x2=y2 <;> by_cases h3:x3=y3 <;> simp[Op.eqFields,f1,f2,f3,g1,g2,g3,part,hA,hB,hE,hS,h0,h1,h2,h3,eq_arr3]
theorem egt_key:Tryz.prog.eqGuardType Tryz.prog.depth 207=false:=by kernel_rfl
theorem neq_key(w:World)(x0 x1 x2 x3 y0 y1 y2 y3:Int):(binOp .neq 207 (.agg #[.int .i64 x0,.int .i64 x1,.int .i64 x2,.int .i64 x3]) (.agg #[.int .i64 y0,.int .i64 y1,.int .i64 y2,.int .i64 y3])).run Tryz.prog w=.ok (.bool (!decide (x0=y0/\x1=y1/\x2=y2/\x3=y3))) w:=by
 simp only[binOp,Sem.run_bind,eq_key,Result.andThen_ok,Sem.run_pure]
theorem quiet_bin{P:Program}{a:Act}{C:World->Prop}{K:Act->Prop}{o:Oper}{b:BinOp}{T U:TypeId}{x y:Operand}{v u r:Value}(ho:o.op=.binOp b T x y U)(hx:a.eval x=v)(hy:a.eval y=u)(hg:∀w,(eqGuard b T x y v u).run P w=.ok () w)(hr:∀w,(binOp b T v u).run P w=.ok r w)(hk:K (a.put o.dst r)):o.quiet P a C K :=
 ⟨r,λw _=>by
   unfold Oper.quietAt execOp;simp only[ho,hx,hy,Sem.run_bind,hg,hr,Result.andThen_ok,Sem.run_pure];exact⟨rfl,rfl⟩,hk⟩
theorem memo_cell{me:G.Memo}{mE:PH}{A c:Nat}(hO:OwnP mE 211 6 (.slice (some ⟨A,0,none⟩) 4096 c) 4096 ((List.range 4096).flatMap λi=>meC (me i))){i:Nat}(hi:i<4096):Cells mE A (i*6) (meC (me i)):=by
 have h:((List.range 4096).flatMap λi=>meC (me i))=((List.range 4096).map me).flatMap meC:=by rw[List.flatMap_map]
 rw[h] at hO;exact Qs meC_len hO (by rw[jO,kKa hi];rfl)
theorem placeH_lt(op a b d:Nat):G.placeH op a b d<4096:=by unfold G.placeH;exact Nat.mod_lt _ (by omega)
theorem mget_none{E w:World}{I mE:PH}{ms:List PH}{X A c ix:Nat}{ak fd:Int}(op a b d:Nat)(h0:op<4611686018427387904)(h1:a<4611686018427387904)(h2:b<4611686018427387904)(h3:d<4611686018427387904)(hc:Cells mE A (ix*6) (meC none))
  (HPl:Hid (∀W:World,(Qa W).at X 1=some (.slice (some ⟨A,0,none⟩) 4096 c)->Calls Tryz.prog 136 #[vPt X,keyV op a b d] W λe w'=>e=.returned (.pointer (some ⟨A,ix*6,none⟩))/\Below W.heap.size W w'))
  (hS:Sat E I (PH.one X (.cells #[.int .i64 4096,.slice (some ⟨A,0,none⟩) 4096 c,.int .i64 ak,.int .i64 fd] 184)::mE::ms) w) :
  Calls Tryz.prog 107 #[vPt X,nv op,nv a,nv b,nv d] w λe' w'=>e'=.returned (.tuple #[.int .i64 0,.bool false])/\∃ak fd:Int,Sat E I (PH.one X (.cells #[.int .i64 4096,.slice (some ⟨A,0,none⟩) 4096 c,.int .i64 ak,.int .i64 fd] 184)::mE::ms) w':=by
 go_enter Tryz.func107,Tryz.ntmps107;go_wp2_with (first|(go_at_call 136;(with_reducible refine bB hS (HPl.out _ (PH.at_le (hS.mle (k:=1) rfl) (Qb rfl))) ?_);clear hS;intro w hS)|(refine aN 12 ?_;clear hS;intro X12 w hS)|(refine aL ?_)|(refine aS ?_;clear hS;intro w hS))
 have x5:w.cell? ⟨A,ix*6+5,none⟩=some (.bool false):=Ql (hS.mle (k:=2) rfl) (hc.at 5 rfl);go_quiet (fail)
 replace hS:=hS.drewN nq;clear x5;go_wp2_with (fail)
 go_ret2;exact⟨rfl,_,_,hS.drop⟩
theorem mget_hit{E w:World}{I mE:PH}{ms:List PH}{X A c ix:Nat}{ak fd:Int}{e:G.Me}(op a b d:Nat)(h0:op<4611686018427387904)(h1:a<4611686018427387904)(h2:b<4611686018427387904)(h3:d<4611686018427387904)(hk:e.op=op/\e.a=a/\e.b=b/\e.c=d)(hc:Cells mE A (ix*6) (meC (some e)))
  (HPl:Hid (∀W:World,(Qa W).at X 1=some (.slice (some ⟨A,0,none⟩) 4096 c)->Calls Tryz.prog 136 #[vPt X,keyV op a b d] W λe w'=>e=.returned (.pointer (some ⟨A,ix*6,none⟩))/\Below W.heap.size W w'))
  (hS:Sat E I (PH.one X (.cells #[.int .i64 4096,.slice (some ⟨A,0,none⟩) 4096 c,.int .i64 ak,.int .i64 fd] 184)::mE::ms) w) :
  Calls Tryz.prog 107 #[vPt X,nv op,nv a,nv b,nv d] w λe' w'=>e'=.returned (.tuple #[nv e.r,.bool true])/\∃ak fd:Int,Sat E I (PH.one X (.cells #[.int .i64 4096,.slice (some ⟨A,0,none⟩) 4096 c,.int .i64 ak,.int .i64 fd] 184)::mE::ms) w':=by
 obtain⟨rfl,rfl,rfl,rfl⟩:=hk;go_enter Tryz.func107,Tryz.ntmps107;go_wp2_with (first|(go_at_call 136;(with_reducible refine bB hS (HPl.out _ (PH.at_le (hS.mle (k:=1) rfl) (Qb rfl))) ?_);clear hS;intro w hS)|(refine aN 12 ?_;clear hS;intro X12 w hS)|(refine aL ?_)|(refine aS ?_;clear hS;intro w hS))
 have x5:w.cell? ⟨A,ix*6+5,none⟩=some (.bool true):=Ql (hS.mle (k:=2) rfl) (hc.at 5 rfl);have x0:w.cell? ⟨A,ix*6,none⟩=some (nv e.op):=Ql (hS.mle (k:=2) rfl) (by have:=hc.at 0 rfl;rwa [Nat.add_zero] at this);have x1:w.cell? ⟨A,ix*6+1,none⟩=some (nv e.a):=Ql (hS.mle (k:=2) rfl) (hc.at 1 rfl);have x2:w.cell? ⟨A,ix*6+2,none⟩=some (nv e.b):=Ql (hS.mle (k:=2) rfl) (hc.at 2 rfl);have x3:w.cell? ⟨A,ix*6+3,none⟩=some (nv e.c):=Ql (hS.mle (k:=2) rfl) (hc.at 3 rfl);have y0:w.cell? ⟨X12,0,none⟩=some (nv e.op):=hS.cell_of (.head _) 0;have y1:w.cell? ⟨X12,1,none⟩=some (nv e.a):=hS.cell_of (.head _) 1;have y2:w.cell? ⟨X12,2,none⟩=some (nv e.b):=hS.cell_of (.head _) 2;have y3:w.cell? ⟨X12,3,none⟩=some (nv e.c):=hS.cell_of (.head _) 3;refine wp_region_quiet_lit (by kernel_rfl) (by kernel_rfl) ?_
 repeat (go_big_quiet_step (fail))
 go_big_quiet_want
 refine quiet_bin (r:=.bool false) rfl rfl rfl (λw=>run_eqGuard_agg w _ _ _ _ _ _ egt_key) (λw=>(neq_key w _ _ _ _ _ _ _ _).trans (by rw[kP ⟨rfl,rfl,rfl,rfl⟩];rfl)) ?_
 (try simp only[Act.put,zE,zF,zG])
 go_big_quiet_on
 repeat (go_big_quiet_step (fail))
 refine wpQuiet_nil ?_;intro _ hw';obtain⟨nq,hw''⟩:=hw';subst hw'';replace hS:=hS.drewN nq;clear x5 x0 x1 x2 x3 y0 y1 y2 y3;go_wp2_with (first|((with_reducible refine Qe ?_);(refine' Xx (v:=nv e.r) (.inr (List.Mem.tail _ (List.Mem.tail _ (List.Mem.head _)))) hS rfl rfl Yi rfl (hc.at 4 rfl) ?_);refine aM ?_)|(refine aL ?_)|(refine aS ?_;clear hS;intro w hS))
 go_ret2;exact⟨rfl,_,_,hS.drop⟩
theorem mget_miss{E w:World}{I mE:PH}{ms:List PH}{X A c ix:Nat}{ak fd:Int}{e:G.Me}(op a b d:Nat)(h0:op<4611686018427387904)(h1:a<4611686018427387904)(h2:b<4611686018427387904)(h3:d<4611686018427387904)(hk:¬(e.op=op/\e.a=a/\e.b=b/\e.c=d))(hc:Cells mE A (ix*6) (meC (some e)))
  (HPl:Hid (∀W:World,(Qa W).at X 1=some (.slice (some ⟨A,0,none⟩) 4096 c)->Calls Tryz.prog 136 #[vPt X,keyV op a b d] W λe w'=>e=.returned (.pointer (some ⟨A,ix*6,none⟩))/\Below W.heap.size W w'))
  (hS:Sat E I (PH.one X (.cells #[.int .i64 4096,.slice (some ⟨A,0,none⟩) 4096 c,.int .i64 ak,.int .i64 fd] 184)::mE::ms) w) :
  Calls Tryz.prog 107 #[vPt X,nv op,nv a,nv b,nv d] w λe' w'=>e'=.returned (.tuple #[.int .i64 0,.bool false])/\∃ak fd:Int,Sat E I (PH.one X (.cells #[.int .i64 4096,.slice (some ⟨A,0,none⟩) 4096 c,.int .i64 ak,.int .i64 fd] 184)::mE::ms) w':=by
 go_enter Tryz.func107,Tryz.ntmps107;go_wp2_with (first|(go_at_call 136;(with_reducible refine bB hS (HPl.out _ (PH.at_le (hS.mle (k:=1) rfl) (Qb rfl))) ?_);clear hS;intro w hS)|(refine aN 12 ?_;clear hS;intro X12 w hS)|(refine aL ?_)|(refine aS ?_;clear hS;intro w hS))
 have x5:w.cell? ⟨A,ix*6+5,none⟩=some (.bool true):=Ql (hS.mle (k:=2) rfl) (hc.at 5 rfl);have x0:w.cell? ⟨A,ix*6,none⟩=some (nv e.op):=Ql (hS.mle (k:=2) rfl) (by have:=hc.at 0 rfl;rwa [Nat.add_zero] at this);have x1:w.cell? ⟨A,ix*6+1,none⟩=some (nv e.a):=Ql (hS.mle (k:=2) rfl) (hc.at 1 rfl);have x2:w.cell? ⟨A,ix*6+2,none⟩=some (nv e.b):=Ql (hS.mle (k:=2) rfl) (hc.at 2 rfl);have x3:w.cell? ⟨A,ix*6+3,none⟩=some (nv e.c):=Ql (hS.mle (k:=2) rfl) (hc.at 3 rfl);have y0:w.cell? ⟨X12,0,none⟩=some (nv op):=hS.cell_of (.head _) 0;have y1:w.cell? ⟨X12,1,none⟩=some (nv a):=hS.cell_of (.head _) 1;have y2:w.cell? ⟨X12,2,none⟩=some (nv b):=hS.cell_of (.head _) 2;have y3:w.cell? ⟨X12,3,none⟩=some (nv d):=hS.cell_of (.head _) 3;refine wp_region_quiet_lit (by kernel_rfl) (by kernel_rfl) ?_
 repeat (go_big_quiet_step (fail))
 go_big_quiet_want
 refine quiet_bin (r:=.bool true) rfl rfl rfl (λw=>run_eqGuard_agg w _ _ _ _ _ _ egt_key) (λw=>(neq_key w _ _ _ _ _ _ _ _).trans (by rw[jVa (λh=>hk ⟨by omega,by omega,by omega,by omega⟩)];rfl)) ?_
 (try simp only[Act.put,zE,zF,zG])
 go_big_quiet_on
 repeat (go_big_quiet_step (fail))
 refine wpQuiet_nil ?_;intro _ hw';obtain⟨nq,hw''⟩:=hw';subst hw'';replace hS:=hS.drewN nq;clear x5 x0 x1 x2 x3 y0 y1 y2 y3;go_wp2_with (fail)
 go_ret2;exact⟨rfl,_,_,hS.drop⟩
theorem mget_any{E w:World}{I p:PH}{ms:List PH}{X:Nat}{me:G.Memo}(op a b d:Nat)(h0:op<4611686018427387904)(h1:a<4611686018427387904)(h2:b<4611686018427387904)(h3:d<4611686018427387904)(hA:Xk X me p)(hS:Sat E I (p::ms) w) :
  Calls Tryz.prog 107 #[vPt X,nv op,nv a,nv b,nv d] w λe w'=>e=.returned (match me.get op a b d with|some r=>.tuple #[nv r,.bool true]|none=>.tuple #[.int .i64 0,.bool false])/\∃p',Xk X me p'/\Sat E I (p'::ms) w':=by
 obtain⟨hf,vE,mE,ak,fd,hbd,hcase⟩:=hA;replace hS:=Sat.unpack hbd hS;simp only[List.cons_append,List.nil_append] at hS;have pack:∀(ak fd:Int) (w':World),Sat E I (PH.one X (.cells #[.int .i64 4096,vE,.int .i64 ak,.int .i64 fd] 184)::mE::ms) w'->∃p',Xk X me p'/\Sat E I (p'::ms) w':=λak fd w' h=>by
  obtain⟨q,hb,hq⟩:=Sat.pack [PH.one X (.cells #[.int .i64 4096,vE,.int .i64 ak,.int .i64 fd] 184),mE] h;exact⟨q,⟨hf,vE,mE,ak,fd,hb,hcase⟩,hq⟩
 have HPk:=yH pack;clear pack hbd;rcases hcase with⟨rfl,rfl,rfl⟩|⟨A,c,rfl,hO⟩
 . have hg:G.Memo.none.get op a b d=none:=G.Memo.none_get op a b d
   rw[hg];clear hf hg;go_enter Tryz.func107,Tryz.ntmps107;go_wp2_with (first|(refine aL ?_)|(refine aS ?_;clear hS;intro w hS))
   go_ret2;exact⟨rfl,HPk.out _ _ _ hS⟩
 . have hlt:=placeH_lt op a b d
   have hc:=memo_cell hO hlt;have HO:=yH hO;have HPl:=yH (λ(W:World) (hX:(Qa W).at X 1=some (.slice (some ⟨A,0,none⟩) 4096 c))=>place_any hX op a b d h0 h1 h2 h3);clear hO hf;cases ho:me (G.placeH op a b d) with
   | none =>
     rw[G.Memo.get_none ho];rw[ho] at hc;refine (mget_none op a b d h0 h1 h2 h3 hc HPl hS).mono ?_;rintro e w ⟨rfl,ak,fd,hS⟩;exact⟨rfl,HPk.out _ _ _ hS⟩
   | some e =>
     rw[ho] at hc;by_cases hk:e.op=op/\e.a=a/\e.b=b/\e.c=d
     . rw[G.Memo.get_hit ho hk]
       refine (mget_hit op a b d h0 h1 h2 h3 hk hc HPl hS).mono ?_;rintro e w ⟨rfl,ak,fd,hS⟩;exact⟨rfl,HPk.out _ _ _ hS⟩
     . rw[G.Memo.get_miss ho hk]
       refine (mget_miss op a b d h0 h1 h2 h3 hk hc HPl hS).mono ?_;rintro e w ⟨rfl,ak,fd,hS⟩;exact⟨rfl,HPk.out _ _ _ hS⟩
end
section
open Go.RowKit
theorem rep_list(z:Array Value)(hz:0<z.size):∀n:Nat,(List.range (n*z.size)).map (λi=>z[i%z.size]!)=(List.range n).flatMap λ_=>z.toList
 | 0=>by simp
 | n+1=>by
   rw[kIa,List.range_add,jGa,rep_list z hz n,kR,jNb];congr 1
   rw[jMb,List.flatMap_nil,jZb,jXa];apply List.ext_getElem
   . simp
   . intro i h1 h2
     have hi:i<z.size:=by simpa using h2
     have e:(n*z.size+i)%z.size=i:=by rw[Nat.mul_comm,Nat.mul_add_mod,kJ hi]
     simp[e,hi]
theorem made_rep(z:Array Value)(hz:0<z.size)(n:Nat):(madeCells z (n*z.size)).toList=(List.range n).flatMap λ_=>z.toList:=by
 unfold madeCells;rw[Array.toList_map,Array.toList_range];exact rep_list z hz n
theorem zero_rep(z:Array Value)(hz:0<z.size)(n:Nat):(Builtin.zeroCells z n).toList=(List.range n).flatMap λ_=>z.toList:=by
 unfold Builtin.zeroCells;rw[Array.toList_map,Array.toList_range];exact rep_list z hz n
section
variable{P:Program} {o:Oper} {a:Act} {w E:World} {K:Act->World->Prop} {Q:Exit->Act->World->Prop} {I:PH} {ms:List PH}
theorem wp_clrO(hS:Sat E I ms w)(k:Nat){m:PH}(hm:ms[k]?=some m){x:Operand}{t e:TypeId}(ho:o.op=.call { callee:=.builtin .clear,args := #[x],argTypes := #[t] })(ht:P.underlying t=some (.slice e))
  {z:Value}(hz:∀w,(zeroValue e).run P w=.ok z w){X n c size:Nat}{xs:List Value}(hzs:z.cells.size=size)(hsz:0<size)(h1:∀u∈z.cells.toList,u.oneCell'=true)(hx:a.eval x=.slice (some ⟨X,0,none⟩) n c)(hO:OwnP m e size (.slice (some ⟨X,0,none⟩) n c) n xs)(hn:0<n)
  (h:∀m' w',OwnP m' e size (.slice (some ⟨X,0,none⟩) n c) n ((List.range n).flatMap λ_=>z.cells.toList)->Sat E I (ms.set k m') w'->K (a.put o.dst (.tuple #[])) w'):o.wp P a w K Q:=by
 subst hzs;have hlen:((List.range n).flatMap λ_=>z.cells.toList).length=n*z.cells.size:=by
  rw[Ks (size:=z.cells.size) (λ_=>by simp)];simp
 rcases hO.2 with⟨h0,_⟩|⟨g,cap,cur,hvs,rfl,hnc,hcm,hcs,htk⟩
 . cases h0
 . injection hvs with hA _ hC
   injection hA with hA
   injection hA with hA
   subst hA hC;have hns:n*z.cells.size<=c*z.cells.size:=jSb _ hnc;have h0:=hS.perm (Kd k hm);have hg:=h0.own _ (.head _) X _ (PH.one_self _ _);generalize hL:(List.range n).flatMap (λ_=>z.cells.toList)=L at *
   have hst:=run_storeCells_at (P:=P) X 0 e L 0 cur w hg (by rw[hlen];simp only[jLb];exact jFb hns hcs) (λv hv=>by
    rw[<- hL] at hv;obtain⟨_,_,hv⟩:=kU.1 hv;exact h1 v hv)
   obtain⟨k',rfl⟩:∃k',n=k'+1:=⟨n-1,by omega⟩;have hcl:∀ty,(Builtin.clear_ #[t] ty #[.slice (some ⟨X,0,none⟩) (k'+1) c]).run P w=.ok (.tuple #[]) (w.setRow X (L++cur.toList.drop L.length).toArray):=λty=>by
    simp[Builtin.clear_,run_underlying ht,hz,zero_rep _ hsz,hL,hst]
   unfold Oper.wp execOp;simp only[ho,resolve,invoke,builtin,Sem.run_bind,Sem.run_pure,Result.andThen_ok,kTb,jDb,jZ,hx,hcl];refine h (PH.one X (.cells (L++cur.toList.drop L.length).toArray e)) _ ⟨hlen,.inr ⟨X,c,_,rfl,rfl,hnc,hcm,?_,?_⟩⟩ ((setRow_step h0).perm (Kl k hm))
   . simp only[jS,yG,kHb]
     rw[hlen]
     have:c*z.cells.size<=cur.toList.length:=by simpa using hcs
     omega
   . simp only
     rw[kGb (by omega),jK (by omega)]
end
section
variable{P:Program} {o:Oper} {a:Act} {w E:World} {Q:Exit->Act->World->Prop} {I:PH} {ms:List PH} {ops:Array Oper} {rest:List Oper}
theorem clrO(k:Nat)(hS:Sat E I ms w)(hg:o.guard=none){m:PH}(hm:ms[k]?=some m){x:Operand}{t e:TypeId}(ho:o.op=.call { callee:=.builtin .clear,args := #[x],argTypes := #[t] })(ht:P.underlying t=some (.slice e))
  {z:Value}(hz:∀w,(zeroValue e).run P w=.ok z w){X n c size:Nat}{xs:List Value}(hzs:z.cells.size=size)(hsz:0<size)(h1:∀u∈z.cells.toList,u.oneCell'=true)(hx:a.eval x=.slice (some ⟨X,0,none⟩) n c)(hO:OwnP m e size (.slice (some ⟨X,0,none⟩) n c) n xs)(hn:0<n)
  (h:∀m' w',OwnP m' e size (.slice (some ⟨X,0,none⟩) n c) n ((List.range n).flatMap λ_=>z.cells.toList)->Sat E I (ms.set k m') w'->wpList P ops Q rest (a.put o.dst (.tuple #[])) w'):wpList P ops Q (o::rest) a w :=
 wpList_plain hg λ_ hK=>wp_clrO hS k hm ho ht hz hzs hsz h1 hx hO hn λm' w' h2 h3=>hK _ _ (h m' w' h2 h3)
theorem clrO0(hg:o.guard=none){x:Operand}{t e:TypeId}(ho:o.op=.call { callee:=.builtin .clear,args := #[x],argTypes := #[t] })(ht:P.underlying t=some (.slice e)){n c:Nat}(hx:a.eval x=.slice none n c)
  (h:wpList P ops Q rest (a.put o.dst (.tuple #[])) w):wpList P ops Q (o::rest) a w :=
 wpList_plain hg λ_ hK=>by
  have hcl:∀ty,(Builtin.clear_ #[t] ty #[.slice none n c]).run P w=.ok (.tuple #[]) w:=λty=>by
   simp[Builtin.clear_,run_underlying ht]
  unfold Oper.wp execOp;simp only[ho,resolve,invoke,builtin,Sem.run_bind,Sem.run_pure,Result.andThen_ok,kTb,jDb,jZ,hx,hcl];exact hK _ _ h
end
theorem isClearO{P:Program}{a:Act}{w:World}{Q:Exit->Act->World->Prop}{ops:Array Oper}{rest:List Oper}{dst:Option Tmp}{type:TypeId}{pos:String}{after:Array Edge}{x:Operand}{t:TypeId}(h:wpList P ops Q (⟨dst,.call { callee:=.builtin .clear,args := #[x],argTypes := #[t] },type,pos,after,none⟩::rest) a w):wpList P ops Q (⟨dst,.call { callee:=.builtin .clear,args := #[x],argTypes := #[t] },type,pos,after,none⟩::rest) a w:=h
theorem ent_info:(Tryz.prog.info? 211).map (λi=>(i.zero,i.size,i.bytes))=some (some (.agg #[.int .i64 0,.int .i64 0,.int .i64 0,.int .i64 0,.int .i64 0,.bool false]),6,48):=by kernel_rfl
abbrev entV(op a b d r:Nat):Value:=.agg #[nv op,nv a,nv b,nv d,nv r,.bool true]
theorem ent_one(op a b d r:Nat):∀u∈(Value.cells (entV op a b d r)).toList,u.oneCell'=true:=by simp[Value.cells,Value.oneCell']
theorem memo_set(n:Nat)(me:Nat->Option G.Me)(ix:Nat)(hix:ix<n)(e:G.Me):spl ((List.range n).flatMap λi=>meC (me i)) (ix*6) (meC (some e))=(List.range n).flatMap λi=>meC (if i=ix then some e else me i):=by
 have h:∀f:Nat->Option G.Me,((List.range n).flatMap λi=>meC (f i))=((List.range n).map f).flatMap meC:=λf=>by rw[List.flatMap_map]
 rw[h,h,flat_set meC_len _ ix (by simpa using hix)];congr 1
 apply kEb;intro j;rw[kNb];by_cases e1:ix=j
 . subst e1
   rw[jAb rfl,jAb (by simpa using hix),jO,kKa hix];simp
 . rw[jAa e1,jO,jO]
   rcases jYb j n with h1|h1
   . rw[kKa h1]
     simp[Ne.symm e1]
   . rw[jJ (by simpa using h1)];rfl
theorem put_eq(me:G.Memo)(op a b d r:Nat):me.put op a b d r=λi=>if i=G.placeH op a b d then some ⟨op,a,b,d,r⟩ else me i:=rfl
theorem MeFit.put{me:G.Memo}(h:MeFit me){op a b d r:Nat}(h0:op<4611686018427387904)(h1:a<4611686018427387904)(h2:b<4611686018427387904)(h3:d<4611686018427387904)(h4:r<4611686018427387904):MeFit (me.put op a b d r):=λi e he=>by
 unfold G.Memo.put at he;split at he
 . injection he with he;subst he;exact⟨h0,h1,h2,h3,h4⟩
 . exact h i e he
theorem MeFit.none:MeFit G.Memo.none:=λi e h=>by cases h
theorem mput_row{E w:World}{I mE:PH}{ms:List PH}{X A c ix:Nat}{ak fd:Int}{xs:List Value}(op a b d r:Nat)(hix:ix<4096)(hO:OwnP mE 211 6 (.slice (some ⟨A,0,none⟩) 4096 c) 4096 xs)
  (HPl:Hid (∀W:World,(Qa W).at X 1=some (.slice (some ⟨A,0,none⟩) 4096 c)->Calls Tryz.prog 136 #[vPt X,keyV op a b d] W λe w'=>e=.returned (.pointer (some ⟨A,ix*6,none⟩))/\Below W.heap.size W w'))
  (hS:Sat E I (PH.one X (.cells #[.int .i64 4096,.slice (some ⟨A,0,none⟩) 4096 c,.int .i64 ak,.int .i64 fd] 184)::mE::ms) w) :
  Calls Tryz.prog 108 #[vPt X,nv op,nv a,nv b,nv d,nv r] w λe' w'=>e'=.returned (.tuple #[])/\∃mE',OwnP mE' 211 6 (.slice (some ⟨A,0,none⟩) 4096 c) 4096 (spl xs (ix*6) (entV op a b d r).cells.toList)/\Sat E I (PH.one X (.cells #[.int .i64 4096,.slice (some ⟨A,0,none⟩) 4096 c,.int .i64 ak,.int .i64 fd] 184)::mE'::ms) w':=by
 have HO:=yH hO;clear hO;have hnil:∀W:World,(binOp .eql 182 (.slice (some ⟨A,0,none⟩) 4096 c) (.slice none 0 0)).run Tryz.prog W=.ok (.bool false) W:=λ_=>by kernel_rfl
 go_enter Tryz.func108,Tryz.ntmps108;go_wp2_with (first|(refine aN 12 ?_;clear hS;intro X12 w hS)|(refine aL ?_)|(refine aS ?_;clear hS;intro w hS))
 . obtain⟨I1,_,lK,hS1,bK⟩:=hS.ice
   obtain⟨I2,l2,lX,hS2,bX⟩:=hS1.ice;have iX:I2.at X 1=some (.slice (some ⟨A,0,none⟩) 4096 c):=PH.at_le lX (Qb rfl);have iK:Cells I2 X12 0 [nv op,nv a,nv b,nv d]:=(Cells.one X12 #[nv op,nv a,nv b,nv d] 207 (0,0)).le (lK.trans l2);clear lK lX hS1 hS;refine Qf [[],[],[0,1],[],[],[3,4],[0,1,2,3,4,5],[0,1,2,3,4,5,6]] E I2 _
    [λv _=>v=vPt X,λv _=>v=keyV op a b d,λv _=>v=.pointer (some ⟨A,ix*6,none⟩),λv _=>v=keyV op a b d,λv _=>v=nv r,λv _=>v=entV op a b d r,λv _=>v=.pointer (some ⟨A,ix*6,none⟩),λ_ _=>True] [7]
    (set1G _ 0 (λm'=>OwnP m' 211 6 (.slice (some ⟨A,0,none⟩) 4096 c) 4096 (spl xs (ix*6) (entV op a b d r).cells.toList))) (by kernel_rfl) (by kernel_rfl) (by decide) hS2 rfl ?last (λ_ _ _ _ _ _ h=>h) (λ_ _ _ _ _ _ h=>h) ?plain ?step ?fin
   case last=>exact bL
   case plain=>(repeat' (first|exact trivial|apply And.intro)) <;> first|exact .inl rfl|(refine .inr ?_;intro s vals J bs w hstop hg hJ hS hG;clear hG;refine bS ?_;intro K HK;(first|(refine bJ ?_)|(go_wp2_with (first|(go_at_call 136;(with_reducible refine bB hS (HPl.out _ (PH.at_le (PH.le.trans hJ hS.ile) iX)) ?_);clear hS;intro w2 hS))));exact bO)
   case step =>
    refine⟨trivial,?_⟩;intro vals J bs w hg hJ hS hG;have hG:bs=_:=hG;subst hG;refine bS ?_;intro K HK;refine Zz (i:=ix) hS 0 rfl rfl rfl rfl HO.out rfl hix ty_sz211 rfl (ent_one _ _ _ _ _) λm' w hO' hS=>?_
    exact HK.out _ _ ⟨rfl,J,_,PH.le.refl _,hS,trivial,m',hO',rfl⟩
   case fin =>
    intro vals J bs w hJ hg hS hG;obtain⟨m1,hO1,hns⟩:=hG;subst hns;have hS:=hS.less hJ;simp only[zG] at hS;have hS:=bK _ _ (bX _ _ hS);have HO1:=yH hO1;clear hO1 bX bK;refine bH ?_;clear hg;go_wp2_with (fail)
    go_end0
    exact⟨rfl,m1,HO1.out,hS.drop⟩
theorem mput_new{E w:World}{I:PH}{ms:List PH}{X ix:Nat}{ak fd:Int}(op a b d r:Nat)(hix:ix<4096)
  (HPl:Hid (∀(W:World) (A:Nat),(Qa W).at X 1=some (.slice (some ⟨A,0,none⟩) 4096 4096)->Calls Tryz.prog 136 #[vPt X,keyV op a b d] W λe w'=>e=.returned (.pointer (some ⟨A,ix*6,none⟩))/\Below W.heap.size W w'))
  (hS:Sat E I (PH.one X (.cells #[.int .i64 4096,.slice none 0 0,.int .i64 ak,.int .i64 fd] 184)::ms) w) :
  Calls Tryz.prog 108 #[vPt X,nv op,nv a,nv b,nv d,nv r] w λe' w'=>e'=.returned (.tuple #[])/\∃A mE',OwnP mE' 211 6 (.slice (some ⟨A,0,none⟩) 4096 4096) 4096 (spl ((List.range 4096).flatMap λ_=>meC none) (ix*6) (entV op a b d r).cells.toList)/\Sat E I (PH.one X (.cells #[.int .i64 4096,.slice (some ⟨A,0,none⟩) 4096 4096,.int .i64 ak,.int .i64 fd] 184)::mE'::ms) w':=by
 obtain⟨xs,hxs⟩:∃xs,xs=((List.range 4096).flatMap λ_=>meC none):=⟨_,rfl⟩;rw[<- hxs];have HX:=yH hxs;clear hxs;have hnil:∀W:World,(binOp .eql 182 (.slice none 0 0) (.slice none 0 0)).run Tryz.prog W=.ok (.bool true) W:=λ_=>by kernel_rfl
 go_enter Tryz.func108,Tryz.ntmps108;go_wp2_with (first|((with_reducible refine isMake ?_);refine mks (n:=4096) (m:=4096) hS rfl rfl Tryz.underlying182 ent_info rfl rfl rfl rfl (jBb _) (by omega) (by omega) ?_;clear hS;intro A w hS;generalize hmc:madeCells _ _=mc at hS;have HM:=yH hmc;clear hmc;refine aM ?_)|(refine aN 12 ?_;clear hS;intro X12 w hS)|(refine aL ?_)|(refine aS ?_;clear hS;intro w hS))
 . have HPl:=yH (λW hX=>HPl.out W A hX)
   have hO:OwnP (PH.one A (.cells mc 211)) 211 6 (.slice (some ⟨A,0,none⟩) 4096 4096) 4096 mc.toList:=OwnP.lit A _ 6 4096 mc (by unfold maxLen;omega) (by rw[<- HM.out,size_madeCells]);have hmc2:mc.toList=xs:=by
    rw[<- HM.out,HX.out];exact made_rep #[.int .i64 0,.int .i64 0,.int .i64 0,.int .i64 0,.int .i64 0,.bool false] (by decide) 4096
   rw[hmc2] at hO;clear HX;generalize hmE:PH.one A (.cells mc 211)=mE at *
   have HO:=yH hO;clear hO HM hmc2 hmE;obtain⟨I1,_,lK,hS1,bK⟩:=hS.ice;obtain⟨I2,l2,lX,hS2,bX⟩:=(hS1.perm (Kd 1 rfl)).ice;simp only[List.eraseIdx_cons_succ,List.eraseIdx_cons_zero] at hS2;have iX:I2.at X 1=some (.slice (some ⟨A,0,none⟩) 4096 4096):=PH.at_le lX (Qb rfl);have iK:Cells I2 X12 0 [nv op,nv a,nv b,nv d]:=(Cells.one X12 #[nv op,nv a,nv b,nv d] 207 (0,0)).le (lK.trans l2);clear lK lX hS1 hS;refine Qf [[],[],[0,1],[],[],[3,4],[0,1,2,3,4,5],[0,1,2,3,4,5,6]] E I2 _
    [λv _=>v=vPt X,λv _=>v=keyV op a b d,λv _=>v=.pointer (some ⟨A,ix*6,none⟩),λv _=>v=keyV op a b d,λv _=>v=nv r,λv _=>v=entV op a b d r,λv _=>v=.pointer (some ⟨A,ix*6,none⟩),λ_ _=>True] [7]
    (set1G _ 0 (λm'=>OwnP m' 211 6 (.slice (some ⟨A,0,none⟩) 4096 4096) 4096 (spl xs (ix*6) (entV op a b d r).cells.toList))) (by kernel_rfl) (by kernel_rfl) (by decide) hS2 rfl ?last (λ_ _ _ _ _ _ h=>h) (λ_ _ _ _ _ _ h=>h) ?plain ?step ?fin
   case last=>exact bL
   case plain=>(repeat' (first|exact trivial|apply And.intro)) <;> first|exact .inl rfl|(refine .inr ?_;intro s vals J bs w hstop hg hJ hS hG;clear hG;refine bS ?_;intro K HK;(first|(refine bJ ?_)|(go_wp2_with (first|(go_at_call 136;(with_reducible refine bB hS (HPl.out _ (PH.at_le (PH.le.trans hJ hS.ile) iX)) ?_);clear hS;intro w2 hS))));exact bO)
   case step =>
    refine⟨trivial,?_⟩;intro vals J bs w hg hJ hS hG;have hG:bs=_:=hG;subst hG;refine bS ?_;intro K HK;refine Zz (i:=ix) hS 0 rfl rfl rfl rfl HO.out rfl hix ty_sz211 rfl (ent_one _ _ _ _ _) λm' w hO' hS=>?_
    exact HK.out _ _ ⟨rfl,J,_,PH.le.refl _,hS,trivial,m',hO',rfl⟩
   case fin =>
    intro vals J bs w hJ hg hS hG;obtain⟨m1,hO1,hns⟩:=hG;subst hns;have hS:=hS.less hJ;simp only[zG] at hS;have hS:=bK _ _ (bX _ _ hS);have HO1:=yH hO1;clear hO1 bX bK;refine bH ?_;clear hg;go_wp2_with (fail)
    go_end0
    exact⟨rfl,A,m1,HO1.out,hS.drop⟩
theorem mput_any{E w:World}{I p:PH}{ms:List PH}{X:Nat}{me:G.Memo}(op a b d r:Nat)(h0:op<4611686018427387904)(h1:a<4611686018427387904)(h2:b<4611686018427387904)(h3:d<4611686018427387904)(h4:r<4611686018427387904)(hA:Xk X me p)(hS:Sat E I (p::ms) w) :
  Calls Tryz.prog 108 #[vPt X,nv op,nv a,nv b,nv d,nv r] w λe w'=>e=.returned (.tuple #[])/\∃p',Xk X (me.put op a b d r) p'/\Sat E I (p'::ms) w':=by
 obtain⟨hf,vE,mE,ak,fd,hbd,hcase⟩:=hA;replace hS:=Sat.unpack hbd hS;simp only[List.cons_append,List.nil_append] at hS;have hfit:=hf.put h0 h1 h2 h3 h4;have hlt:=placeH_lt op a b d;have hpl:=λ(W:World) (A c:Nat) (hX:(Qa W).at X 1=some (.slice (some ⟨A,0,none⟩) 4096 c))=>place_any hX op a b d h0 h1 h2 h3
 have hput:=put_eq me op a b d r;have fin:∀(A c:Nat) (mE':PH) (w':World),OwnP mE' 211 6 (.slice (some ⟨A,0,none⟩) 4096 c) 4096 (spl ((List.range 4096).flatMap λi=>meC (me i)) (G.placeH op a b d*6) (entV op a b d r).cells.toList)->Sat E I (PH.one X (.cells #[.int .i64 4096,.slice (some ⟨A,0,none⟩) 4096 c,.int .i64 ak,.int .i64 fd] 184)::mE'::ms) w'->∃p',Xk X (me.put op a b d r) p'/\Sat E I (p'::ms) w':=λA c mE' w' hO h=>by
  obtain⟨q,hb,hq⟩:=Sat.pack [PH.one X (.cells #[.int .i64 4096,.slice (some ⟨A,0,none⟩) 4096 c,.int .i64 ak,.int .i64 fd] 184),mE'] h;refine⟨q,⟨hfit,_,mE',ak,fd,hb,.inr ⟨A,c,rfl,?_⟩⟩,hq⟩;rw[hput]
  have:=memo_set 4096 me (G.placeH op a b d) hlt ⟨op,a,b,d,r⟩;rw[<- this];exact hO
 rcases hcase with⟨rfl,rfl,rfl⟩|⟨A,c,rfl,hO⟩
 . have hn:((List.range 4096).flatMap λi=>meC (G.Memo.none i))=(List.range 4096).flatMap λ_=>meC none:=rfl
   rw[hn] at fin;refine (mput_new op a b d r hlt (yH λW A hX=>hpl W A 4096 hX) ((hS.perm (List.Perm.swap _ _ _)).drop)).mono ?_;rintro e w ⟨rfl,A,mE',hO,hS⟩;exact⟨rfl,fin _ _ _ _ hO hS⟩
 . refine (mput_row op a b d r hlt hO (yH λW hX=>hpl W A c hX) hS).mono ?_
   rintro e w ⟨rfl,mE',hO,hS⟩;exact⟨rfl,fin _ _ _ _ hO hS⟩
theorem ent_zero(w:World):(zeroValue 211).run Tryz.prog w=.ok (.agg #[.int .i64 0,.int .i64 0,.int .i64 0,.int .i64 0,.int .i64 0,.bool false]) w:=by kernel_rfl
theorem ent_z1:∀u∈(Value.cells (.agg #[.int .i64 0,.int .i64 0,.int .i64 0,.int .i64 0,.int .i64 0,.bool false])).toList,u.oneCell'=true:=by simp[Value.cells,Value.oneCell']
theorem mclear_any{E w:World}{I p:PH}{ms:List PH}{X:Nat}{me:G.Memo}(hA:Xk X me p)(hS:Sat E I (p::ms) w) :
  Calls Tryz.prog 122 #[vPt X] w λe w'=>e=.returned (.tuple #[])/\∃p',Xk X G.Memo.none p'/\Sat E I (p'::ms) w':=by
 obtain⟨hf,vE,mE,ak,fd,hbd,hcase⟩:=hA;have hpack:=λ(w':World) (h:Sat E I (p::ms) w')=>h
 have hbd2:=hbd;replace hS:=Sat.unpack hbd hS;simp only[List.cons_append,List.nil_append] at hS;rcases hcase with⟨rfl,rfl,rfl⟩|⟨A,c,rfl,hO⟩
 . clear hf hbd hbd2 hpack
   go_enter Tryz.func122,Tryz.ntmps122;go_wp2_with (first|((with_reducible refine isClearO ?_);refine clrO0 rfl rfl Tryz.underlying182 rfl ?_;(try simp only[Act.put]))|(refine aL ?_))
   go_end0
   obtain⟨q,hb,hq⟩:=Sat.pack [PH.one X (.cells #[.int .i64 4096,.slice none 0 0,.int .i64 ak,.int .i64 fd] 184),(λ_=>none:PH)] hS;exact⟨rfl,q,⟨MeFit.none,_,_,ak,fd,hb,.inl ⟨rfl,rfl,rfl⟩⟩,hq⟩
 . have HO:=yH hO
   clear hf hbd hbd2 hpack hO;generalize hxs:((List.range 4096).flatMap λi=>meC (me i))=xs at *
   clear hxs;have hn:((List.range 4096).flatMap λi=>meC (G.Memo.none i))=(List.range 4096).flatMap λ_=>(Value.cells (.agg #[.int .i64 0,.int .i64 0,.int .i64 0,.int .i64 0,.int .i64 0,.bool false])).toList:=rfl
   have HN:=yH hn;clear hn;generalize hys:((List.range 4096).flatMap λi=>meC (G.Memo.none i))=ys at *
   have HY:=yH hys;clear hys;go_enter Tryz.func122,Tryz.ntmps122;go_wp2_with (first|((with_reducible refine isClearO ?_);refine clrO (n:=4096) 1 hS rfl rfl rfl Tryz.underlying182 ent_zero rfl (by decide) ent_z1 rfl HO.out (by omega) ?_;rw[<- HN.out];clear hS;intro m' w hO' hS;have HO':=yH hO';clear hO';(try simp only[zF,zG] at hS);(try simp only[Act.put]))|(refine aL ?_))
   go_end0
   obtain⟨q,hb,hq⟩:=Sat.pack [PH.one X (.cells #[.int .i64 4096,.slice (some ⟨A,0,none⟩) 4096 c,.int .i64 ak,.int .i64 fd] 184),m'] hS;refine⟨rfl,q,⟨MeFit.none,_,_,ak,fd,hb,.inr ⟨A,c,rfl,?_⟩⟩,hq⟩;rw[HY.out];exact HO'.out
end
end Go.Proofs.YtidamcdklgfogaaGreat
