import Derived.Test.YtidamcdklgfogaaGreatZab
import Derived.Test.YtidamcdklgfogaaGreatZbh
import Derived.Says
import Derived.Deep.LoopGhost
set_option linter.unusedSimpArgs false
set_option linter.unusedVariables false
set_option maxRecDepth 100000
set_option maxHeartbeats 8000000
namespace Go.Proofs.YtidamcdklgfogaaGreat
section
open Go.RowKit
def sideE {α:Type} (P:PH→Prop) (Q:α→PH→Prop):G.Rs α→PH→Prop
 | .ok a,q=>Q a q
 | .stop _,q=>P q
def tryE {α:Type}:G.Rs α→Value
 | .ok _=>.tuple #[.agg #[.int .i64 0,.bool false,.int .i64 0,.int .i64 0,.int .i64 0],.bool true]
 | .stop s=>.tuple #[stopV s,.bool false]
structure OpC {α:Type} (fid:Nat) (cs:Array Value) (D:Nat) (J0:PH) (Inv:G.Mg→Prop) (F:G.Mg→G.Step α) (ret:α→Value) (P:PH→Prop) (Q:α→PH→Prop):Prop where
 enter:∀ (args:Array Value) (w:World),(callFunc fid args).run Tryz.prog w=.ok (.enter fid args) w
 run:∀ (E:World) (I p q:PH) (ms:List PH) (w:World) (m m':G.Mg) (rs:G.Rs α) (X:Nat),J0.le I→Inv m→F m=some (m',rs)→I.at X 0=some (vPt D)→MgAt D m p→P q→Sat E I (p::q::ms) w →
  Calls Tryz.prog fid (#[vPt X] ++ cs) w fun e w'=>e=endE ret rs∧∃ p' q',MgAt D m' p'∧sideE P Q rs q'∧Sat E I (p'::q'::ms) w'
theorem tcatch_idle {E:World} {I:PH} {ms:List PH} {X4 X5:Nat} {w:World} (hS:Sat E I (PH.one X5 (.cells #[.bool true] 4)::ms) w) :
  CallsD Tryz.prog 149 #[vPt X5,vPt X4] .returning w fun e u' w'=>e=.returned (.tuple #[])∧u'=.returning∧w'=w:=by
 refine callsD_of_wpS Tryz.func149 rfl fun c₀ cs hu=>?_
 simp only [Tryz.ntmps149,List.size_toArray,yB,yC,Nat.reduceAdd,Nat.reduceSub,Array.replicate_succ,Array.replicate_zero,List.push_toArray,List.append_toArray,List.nil_append,List.cons_append]
 have c5:w.cell? ⟨X5,0,none⟩=some (.bool true):=hS.cell_of (.head _) 0
 apply wpS_seq
 apply wpS_seq
 apply wpS_region
 simp [wpOpsS,go_sem,Exit.thenS,c5]
 refine wpS_cond (t:=true) (by simp [Act.eval]) ?_
 simp only [if_true]
 refine wpS_of_wp ?_
 go_wp2_with fail
 cases c₀
 simp_all [bodyPostS,results,Exit.thenS,Tryz.results149]
theorem tcatch_stop {E:World} {I:PH} {ms:List PH} {X4 X5:Nat} {c0 c1 c2 c3 c4:Value} {w:World} (s:G.Stop) (hS:Sat E I (PH.one X5 (.cells #[.bool false] 4)::PH.one X4 (.cells #[c0,c1,c2,c3,c4] 154)::ms) w) :
  CallsD Tryz.prog 149 #[vPt X5,vPt X4] (.panicking (stopE s)) w fun e u' w'=>e=.returned (.tuple #[])∧u'=.panicking [{ v:=.iface 154 (stopV s),recovered:=true }]∧Sat E I (PH.one X5 (.cells #[.bool false] 4)::PH.one X4 (.cells (stopV s).cells 154)::ms) w':=by
 rcases s with er|ev
 · unfold stopE stopV
   have hta:∀ w:World,(Instr.typeAssert (.iface 154 (.agg #[nv er,.bool false,.int .i64 0,.int .i64 0,.int .i64 0])) 20 154 true).run Tryz.prog w=.ok (.tuple #[.agg #[nv er,.bool false,.int .i64 0,.int .i64 0,.int .i64 0],.bool true]) w:=fun _=>by kernel_rfl
   refine callsD_of_wpS Tryz.func149 rfl fun c₀ cs hu=>?_
   simp only [Tryz.ntmps149,List.size_toArray,yB,yC,Nat.reduceAdd,Nat.reduceSub,Array.replicate_succ,Array.replicate_zero,List.push_toArray,List.append_toArray,List.nil_append,List.cons_append]
   have c5:w.cell? ⟨X5,0,none⟩=some (.bool false):=hS.cell_of (.head _) 0
   apply wpS_seq
   apply wpS_seq
   apply wpS_region
   simp [wpOpsS,go_sem,Exit.thenS,c5]
   refine wpS_cond (t:=false) (by simp [Act.eval]) ?_
   simp only [Bool.false_eq_true,if_false]
   refine wpS_of_wp ?_
   refine wp_skip ?_
   simp only [Exit.thenS]
   apply wpS_seq
   apply wpS_region
   simp [wpOpsS,go_sem,recoverD,hu,Exit.thenS]
   refine wpS_of_wp ?_
   go_wp2_with (first|((with_reducible refine Qc ?_);first|((with_reducible refine Ql 3 ?_);(refine' al (z:=_) hS rfl rfl ?ha ?_);(case ha =>  exact ty_z154 );clear hS;intro X3 w hS;(try simp only [Value.cells] at hS);(try simp only [Act.put,zE,zF,zG]))|((with_reducible refine Qb ?_);( (refine ldN 0 hS rfl rfl ?ha rfl rfl ?hb ?_;(case ha=>exact ty_agg154);(case hb=>exact Xh)) );(try simp only [Act.put,zE,zF,zG]))|((with_reducible refine Qn ?_);(first|(refine stN 0 hS rfl rfl rfl rfl rfl ?ha rfl rfl ?_;(case ha=>exact Xh))|(refine stN 2 hS rfl rfl rfl rfl rfl ?ha rfl rfl ?_;(case ha=>exact Xh)));clear hS;intro w hS;(try simp only [zF,zG,Act.eval,zD,zC,zA,zB,zJ,Value.cells] at hS);(try simp only [Act.put])) ))
   simp [bodyPostS,results,Tryz.results149]
   exact hS.drop
 · unfold stopE stopV
   have hta:∀ w:World,(Instr.typeAssert (.iface 154 (.agg #[.int .i64 0,.bool true,.int .i64 ev.after,.int .i64 ev.kind,.int .i64 ev.level])) 20 154 true).run Tryz.prog w=.ok (.tuple #[.agg #[.int .i64 0,.bool true,.int .i64 ev.after,.int .i64 ev.kind,.int .i64 ev.level],.bool true]) w:=fun _=>by kernel_rfl
   refine callsD_of_wpS Tryz.func149 rfl fun c₀ cs hu=>?_
   simp only [Tryz.ntmps149,List.size_toArray,yB,yC,Nat.reduceAdd,Nat.reduceSub,Array.replicate_succ,Array.replicate_zero,List.push_toArray,List.append_toArray,List.nil_append,List.cons_append]
   have c5:w.cell? ⟨X5,0,none⟩=some (.bool false):=hS.cell_of (.head _) 0
   apply wpS_seq
   apply wpS_seq
   apply wpS_region
   simp [wpOpsS,go_sem,Exit.thenS,c5]
   refine wpS_cond (t:=false) (by simp [Act.eval]) ?_
   simp only [Bool.false_eq_true,if_false]
   refine wpS_of_wp ?_
   refine wp_skip ?_
   simp only [Exit.thenS]
   apply wpS_seq
   apply wpS_region
   simp [wpOpsS,go_sem,recoverD,hu,Exit.thenS]
   refine wpS_of_wp ?_
   go_wp2_with (first|((with_reducible refine Qc ?_);first|((with_reducible refine Ql 3 ?_);(refine' al (z:=_) hS rfl rfl ?ha ?_);(case ha =>  exact ty_z154 );clear hS;intro X3 w hS;(try simp only [Value.cells] at hS);(try simp only [Act.put,zE,zF,zG]))|((with_reducible refine Qb ?_);( (refine ldN 0 hS rfl rfl ?ha rfl rfl ?hb ?_;(case ha=>exact ty_agg154);(case hb=>exact Xh)) );(try simp only [Act.put,zE,zF,zG]))|((with_reducible refine Qn ?_);(first|(refine stN 0 hS rfl rfl rfl rfl rfl ?ha rfl rfl ?_;(case ha=>exact Xh))|(refine stN 2 hS rfl rfl rfl rfl rfl ?ha rfl rfl ?_;(case ha=>exact Xh)));clear hS;intro w hS;(try simp only [zF,zG,Act.eval,zD,zC,zA,zB,zJ,Value.cells] at hS);(try simp only [Act.put])) ))
   simp [bodyPostS,results,Tryz.results149]
   exact hS.drop
section
variable {P:Program} {fn:Func} {R:Ending→World→Prop} {a:Act} {w:World} {v:Value} {fv:Fn} {cap dargs:Array Value} {f:FuncId} {args:Array Value}
theorem postD_idle (hd:a.defers=[{ target:=.fn fv cap,args:=dargs }]) (hi:(invoke (.fn fv cap) dargs).run P w=.ok (.enter f args) w)
  (hc:CallsD P f args .returning w fun e u' w'=>e=.returned (.tuple #[])∧u'=.returning∧w'=w) (h:(results fn a.tmps).run P w=.ok v w) (hR:R (.returned v) w):bodyPostD P fn R .ret a w:=by
 show Leaves P fn a.tmps R a.defers .returning w
 rw [hd]
 refine leaves_cons (by simp) hi (hc.mono ?_)
 rintro e u' w' ⟨rfl,rfl,rfl⟩
 exact ⟨v,h,hR⟩
theorem postD_caught {chain:List PanicEntry} {pe:PanicEntry} {S:World→Prop} (hd:a.defers=[{ target:=.fn fv cap,args:=dargs }]) (hi:(invoke (.fn fv cap) dargs).run P w=.ok (.enter f args) w)
  (hc:CallsD P f args (.panicking chain) w fun e u' w'=>e=.returned (.tuple #[])∧u'=.panicking [{ v:=pe.v,recovered:=true }]∧S w') (h:∀ w',S w'→∃ v,(results fn a.tmps).run P w'=.ok v w'∧R (.returned v) w'):bodyPostD P fn R (.panic chain) a w:=by
 show Leaves P fn a.tmps R a.defers (.panicking chain) w
 rw [hd]
 refine leaves_cons (by simp) hi (hc.mono ?_)
 rintro e u' w' ⟨rfl,rfl,hS⟩
 exact h w' hS
end
theorem ret_cellN1 {P:Program} {fn:Func} {p q:Tmp} {T U:TypeId} {tmps:Array Value} {w E:World} {I:PH} {ms:List PH} (k l:Nat) (hS:Sat E I ms w) (h:fn.results = #[.cell p T,.cell q U]) {X Y:Nat} {c d:Array Value} {T' U':TypeId} {z y:Nat × Nat} {u:Value}
  (hp:tmps.getD p undef=.pointer (some ⟨X,0,none⟩)) (hq:tmps.getD q undef=.pointer (some ⟨Y,0,none⟩)) (hk:ms[k]?=some (PH.one X (.cells c T' z))) (hl:ms[l]?=some (PH.one Y (.cells d U' y)))
  (ha:Kz P T=some true) (hsz:Ko P T=some c.size) (hb:Kz P U=some false) (hu:d.toList[0]?=some u):(results fn tmps).run P w=.ok (.tuple #[.agg c,u]) w:=by
 have h0:=run_loadN (P:=P) (hS.mle hk) ha (Cells.one X c T' z) (by rw [hsz];simp)
 have h1:=run_load1 (P:=P) (hS.mle hl) hb (X:=Y) (off:=0) (v:=u) (by simp only [PH.at,PH.one_self];rw [← hu];simp)
 simp only [Instr.loadAt,Instr.sureAddr,Sem.run_bind,Sem.run_pure,Result.andThen_ok] at h0 h1
 rw [zD] at hp hq
 simp [results,h,hp,hq,asAddr,h0,h1]
theorem stop_size (s:G.Stop):(stopV s).cells.size=5:=by cases s <;> rfl
theorem stop_agg (s:G.Stop):Value.agg (stopV s).cells=stopV s:=by cases s <;> rfl
theorem OpC.box {α:Type} {fid D:Nat} {cs:Array Value} {J0:PH} {Inv:G.Mg→Prop} {F:G.Mg→G.Step α} {ret:α→Value} {P:PH→Prop} {Q:α→PH→Prop} (hop:OpC fid cs D J0 Inv F ret P Q)
  {E w:World} {I p q:PH} {ns:List PH} {m m':G.Mg} {rs:G.Rs α} {X:Nat} (hJ0:J0.le I) (hI:Inv m) (hF:F m=some (m',rs)) (hA:MgAt D m p) (hq:P q) (hS:Sat E I (PH.one X (.cells #[vPt D] 151)::p::q::ns) w) :
  Calls Tryz.prog fid (#[vPt X] ++ cs) w fun e w'=>e=endE ret rs∧∃ p' q',MgAt D m' p'∧sideE P Q rs q'∧Sat E I (PH.one X (.cells #[vPt D] 151)::p'::q'::ns) w':=by
 obtain ⟨J,lJ,mJ,hS2,back⟩:=hS.ice
 refine (hop.run E J p q ns w m m' rs X (hJ0.trans lJ) hI hF (PH.at_le mJ (Qk rfl)) hA hq hS2).mono ?_
 rintro e w' ⟨he,p',q',h1,h2,h3⟩
 exact ⟨he,p',q',h1,h2,back _ _ h3⟩
theorem perm_5 (a b c p q:PH) (ms:List PH):List.Perm (a::b::c::p::q::ms) (a::p::q::b::c::ms):=by
 refine List.Perm.cons _ ?_
 have h1:List.Perm (b::c::p::q::ms) ([b,c] ++ ([p,q] ++ ms)):=.refl _
 have h2:List.Perm ([b,c] ++ ([p,q] ++ ms)) ([p,q] ++ ([b,c] ++ ms)):=by
  rw [← List.append_assoc,← List.append_assoc]
  exact List.Perm.append_right _ List.perm_append_comm
 exact h1.trans h2
theorem mtry_any {α:Type} {fid D:Nat} {cs:Array Value} {J0:PH} {Inv:G.Mg→Prop} {F:G.Mg→G.Step α} {P:PH→Prop} {Q:α→PH→Prop} (hop:OpC fid cs D J0 Inv F (fun _=>.tuple #[]) P Q)
  {E w:World} {I p q:PH} {ms:List PH} {m m':G.Mg} {rs:G.Rs α} (hJ0:J0.le I) (hI:Inv m) (hF:F m=some (m',rs)) (hA:MgAt D m p) (hq:P q) (hS:Sat E I (p::q::ms) w) :
  Calls Tryz.prog 125 #[vPt D,.func (.func fid) #[] cs] w fun e w'=>e=.returned (tryE rs) ∧
   ∃ p' q',MgAt D m' p'∧sideE P Q rs q'∧Sat E I (p'::q'::ms) w':=by
 have hent:=hop.enter
 have HO:=yH (fun (X:Nat) (ns:List PH) (w:World) (h:Sat E I (PH.one X (.cells #[vPt D] 151)::p::q::ns) w)=>hop.box hJ0 hI hF hA hq h)
 clear hop hJ0 hI hF hA hq
 have hmf:∀ (fn:Fn) (first cap:Array Value) (w:World),(Instr.makeFunc fn first cap).run Tryz.prog w=.ok (.func fn first cap) w:=fun _ _ _ _=>rfl
 cases rs with
 | ok a =>
   simp only [endE] at HO
   go_enter_defers Tryz.func125,Tryz.ntmps125
   go_wp2_with (first|((with_reducible refine yI (HO.out _ _ _ (hS.perm (perm_5 _ _ _ _ _ _))) ?_);clear hS;rintro e w ⟨rfl,p1,q1,hA1,hQ1,hS1⟩;have hS:=hS1.perm (perm_5 _ _ _ _ _ _);clear hS1)|((with_reducible refine Qc ?_);first|((with_reducible refine Ql 4 ?_);(refine' al (z:=_) hS rfl rfl ?ha ?_);(case ha =>  exact ty_z154 );clear hS;intro X4 w hS;(try simp only [Value.cells] at hS);(try simp only [Act.put,zE,zF,zG]))|((with_reducible refine Ql 5 ?_);(refine' al (z:=_) hS rfl rfl ?ha ?_);(case ha =>  exact ty_z4 );clear hS;intro X5 w hS;(try simp only [Value.cells] at hS);(try simp only [Act.put,zE,zF,zG]))|((with_reducible refine Za 10 ?_);refine bx hS rfl rfl rfl ?_;clear hS;intro X10 w hS;(try simp only [Act.eval,zD,zC,zA,zB,zJ,Value.cells] at hS);(try simp only [Act.put,zE,zF,zG]))|((with_reducible refine Qn ?_);(first|(refine st1 1 hS rfl rfl rfl rfl rfl ?ha rfl rfl ?hb ?_;(case ha=>exact ty_sz4);(case hb=>(simp;done)))|(refine stN 2 hS rfl rfl rfl rfl rfl ?ha rfl rfl ?_;(case ha =>  exact Xh )));clear hS;intro w hS;(try simp only [zF,zG,zE,Act.eval,zD,zC,zA,zB,zJ,Value.cells] at hS);(try simp only [Act.put])) ))
   refine postD_idle rfl (f:=149) (args := #[vPt X5,vPt X4]) (by simp [go_sem]) (tcatch_idle (hS.pick 1 rfl)) (ret_cellN1 2 1 hS rfl rfl rfl rfl rfl ty_agg154 Xh Yb rfl) ?_
   exact ⟨rfl,p1,q1,hA1,hQ1,hS.drop.drop.drop⟩
 | stop s =>
   simp only [endE] at HO
   go_enter_defers Tryz.func125,Tryz.ntmps125
   go_wp2_with (first|((with_reducible refine yI (HO.out _ _ _ (hS.perm (perm_5 _ _ _ _ _ _))) ?_);clear hS;rintro e w ⟨rfl,p1,q1,hA1,hQ1,hS1⟩;have hS:=hS1.perm (perm_5 _ _ _ _ _ _);clear hS1)|((with_reducible refine Qc ?_);first|((with_reducible refine Ql 4 ?_);(refine' al (z:=_) hS rfl rfl ?ha ?_);(case ha =>  exact ty_z154 );clear hS;intro X4 w hS;(try simp only [Value.cells] at hS);(try simp only [Act.put,zE,zF,zG]))|((with_reducible refine Ql 5 ?_);(refine' al (z:=_) hS rfl rfl ?ha ?_);(case ha =>  exact ty_z4 );clear hS;intro X5 w hS;(try simp only [Value.cells] at hS);(try simp only [Act.put,zE,zF,zG]))|((with_reducible refine Za 10 ?_);refine bx hS rfl rfl rfl ?_;clear hS;intro X10 w hS;(try simp only [Act.eval,zD,zC,zA,zB,zJ,Value.cells] at hS);(try simp only [Act.put,zE,zF,zG])) ))
   refine postD_caught rfl (f:=149) (args := #[vPt X5,vPt X4]) (pe:={ v:=.iface 154 (stopV s),recovered:=false }) (by simp [go_sem]) (tcatch_stop s hS.drop) ?_
   intro w' hS
   refine ⟨_,ret_cellN1 1 0 hS rfl rfl rfl rfl rfl ty_agg154 (by rw [stop_size];exact Xh) Yb rfl,?_⟩
   exact ⟨by rw [stop_agg];rfl,p1,q1,hA1,hQ1,hS.drop.drop⟩
end
section
open Go.RowKit
def runE {α:Type}:α ⊕ Nat→Value
 | .inl _=>.int .i64 0
 | .inr e=>nv e
def sideR {α:Type} (P:PH→Prop) (Q:α→PH→Prop):α ⊕ Nat→PH→Prop
 | .inl a,q=>Q a q
 | .inr _,q=>P q
theorem isLoadT (T:TypeId) {P:Program} {a:Act} {w:World} {Q:Exit→Act→World→Prop} {ops:Array Oper} {rest:List Oper} {dst:Option Tmp} {type:TypeId} {pos:String} {after:Array Edge} {x:Operand} {g:Option (Nat × Bool)} (h:wpList P ops Q (⟨dst,.load T x,type,pos,after,g⟩::rest) a w):wpList P ops Q (⟨dst,.load T x,type,pos,after,g⟩::rest) a w:=h
theorem ev_mid (X:Nat) (a b c d e:Value) (T:TypeId):Cells (PH.one X (.cells #[a,b,c,d,e] T (0,0))) X 2 [c,d,e]:=by
 have:=(Cells.one X #[a,b,c,d,e] T (0,0)).part 2 3
 exact this
theorem run_succ {α:Type} (F:G.Mg→G.Step α) (k:Nat) (room:Bool) (m:G.Mg):G.Mg.run F (k+1) room m=match F m with
 | none=>none
 | some (m',.ok a)=>some (m',.inl a)
 | some (m',.stop (.event ev))=>(m'.happen ev).bind (G.Mg.run F k false)
 | some (m',.stop (.err e))=>if e=7∧room=false then m'.collect.bind fun (m'',_)=>G.Mg.run F k true m'' else some (m',.inr e):=rfl
theorem mrun_any {α:Type} {fid D:Nat} {cs:Array Value} {J0:PH} {Inv:G.Mg→Prop} {F:G.Mg→G.Step α} {P:PH→Prop} {Q:α→PH→Prop} (hop:OpC fid cs D J0 Inv F (fun _=>.tuple #[]) P Q) (hK:KeepsM Inv) (hstep:∀ m m' rs,Inv m→F m=some (m',rs)→Inv m')
  {E w:World} {I p q:PH} {ms:List PH} {m m':G.Mg} {k:Nat} {res:α ⊕ Nat} (hJ0:J0.le I) (hI:Inv m) (hm:G.Mg.run F k false m=some (m',res)) (hA:MgAt D m p) (hq:P q) (hS:Sat E I (p::q::ms) w) :
  Calls Tryz.prog 92 #[vPt D,.func (.func fid) #[] cs] w fun e w'=>e=.returned (runE res)∧∃ p' q',MgAt D m' p'∧sideR P Q res q'∧Sat E I (p'::q'::ms) w':=by
 have HT:=yH (fun (m m1:G.Mg) (rs:G.Rs α) (p q:PH) (w:World) (hI:Inv m) (hF:F m=some (m1,rs)) (hA:MgAt D m p) (hq:P q) (hS:Sat E I (p::q::ms) w)=>mtry_any hop hJ0 hI hF hA hq hS)
 have HK:=yH hK
 have HSt:=yH hstep
 have HI:=yH hI
 have HM:=yH hm
 have HA:=yH hA
 have Hq:=yH hq
 clear hop hK hstep hI hm hA hq hJ0
 go_enter Tryz.func92,Tryz.ntmps92
 go_wp2_with fail
 go_loopg [5] k (fun k v5 wr=>∃ (room:Bool) (m:G.Mg) (p q:PH),v5=.bool room∧Inv m∧G.Mg.run F k room m=some (m',res)∧MgAt D m p∧P q∧Sat E I (p::q::ms) wr)
 case atStart=>exact ⟨false,m,p,q,rfl,HI.out,HM.out,HA.out,Hq.out,hS⟩
 case round =>
  clear hS HI HM HA Hq
  obtain ⟨room,m1,p,q,rfl,hI,hm,hA,hq,hS⟩:=hrel
  cases gk with
  | zero=>cases hm
  | succ k =>
    rw [run_succ] at hm
    cases hF:F m1 with
    | none=>rw [hF] at hm;cases hm
    | some x =>
      obtain ⟨m2,rs⟩:=x
      rw [hF] at hm
      have H1:=yH (fun (w:World) (h:Sat E I (p::q::ms) w)=>HT.out m1 m2 rs p q w hI hF hA hq h)
      have hI2:=HSt.out _ _ _ hI hF
      clear hF hA hq hI HT
      cases rs with
      | ok a =>
        cases hm
        simp only [tryE,sideE] at H1
        go_wp2_with (first|(go_at_call 125;(with_reducible refine yI (H1.out _ hS) ?_);clear hS;rintro e w ⟨rfl,p1,q1,hA1,hQ1,hS⟩;have HA1:=yH hA1;have HQ1:=yH hQ1;clear hA1 hQ1)|((with_reducible refine Qc ?_);first|((with_reducible refine Ql 6 ?_);(refine' al (z:=_) hS rfl rfl ?ha ?_);(case ha=>exact ty_z154);clear hS;intro X6 w hS;(try simp only [Value.cells] at hS);(try simp only [Act.put,zE,zF,zG]))|((with_reducible refine Qn ?_);(first|(refine stN 0 hS rfl rfl rfl rfl rfl ?ha rfl rfl ?_;(case ha=>exact Xh)));clear hS;intro w hS;(try simp only [zG,Act.eval,zD,zC,zA,zB,zJ,Value.cells] at hS);(try simp only [Act.put])) ))
        go_ret
        exact ⟨rfl,p1,q1,HA1.out,HQ1.out,hS.drop⟩
      | stop st =>
        cases st with
        | event ev =>
          simp only at hm
          cases hh:m2.happen ev with
          | none=>rw [hh] at hm;cases hm
          | some m3 =>
            rw [hh] at hm
            simp only [zK] at hm
            have H2:=yH (fun (p:PH) (ms':List PH) (w:World) (hA:MgAt D m2 p) (h:Sat E I (p::ms') w)=>mhappen_any HK.out hI2 hh hA h)
            have hI3:=HK.out.happen hI2 hh
            have HI3:=yH hI3
            have HM:=yH hm
            clear hh hI2 hI3 hm
            obtain ⟨ea,ek,el⟩:=ev
            simp only [tryE,stopV,sideE] at H1
            simp only [evV] at H2
            go_wp2_with (first|(go_at_call 125;(with_reducible refine yI (H1.out _ hS) ?_);clear hS;rintro e w ⟨rfl,p1,q1,hA1,hQ1,hS⟩;have HA1:=yH hA1;have HQ1:=yH hQ1;clear hA1 hQ1)|((with_reducible refine isLoadT 85 ?_);refine ldPN (hS.mle (k:=0) rfl) rfl rfl ty_agg85 rfl (ev_mid _ _ _ _ _ _ _) ty_sz85 ?_;(try simp only [Act.put,zE,zF,zG]))|(go_at_call 126;(with_reducible refine yI (H2.out _ _ _ HA1.out (hS.pick 1 rfl)) ?_);clear hS;rintro e w ⟨rfl,p2,hA2,hS⟩;have HA2:=yH hA2;clear hA2;replace hS:=Sat.back (m:=p1) 1 rfl hS;simp only [zF,zG] at hS)|((with_reducible refine Qc ?_);first|((with_reducible refine Ql 6 ?_);(refine' al (z:=_) hS rfl rfl ?ha ?_);(case ha=>exact ty_z154);clear hS;intro X6 w hS;(try simp only [Value.cells] at hS);(try simp only [Act.put,zE,zF,zG]))|((with_reducible refine Qb ?_);( (refine ld1 0 hS rfl rfl ?ha rfl rfl rfl ?_;(case ha=>exact Yb)) );(try simp only [Act.put,zE,zF,zG]))|((with_reducible refine Qn ?_);(first|(refine stN 0 hS rfl rfl rfl rfl rfl ?ha rfl rfl ?_;(case ha=>exact Xh)));clear hS;intro w hS;(try simp only [zG,Act.eval,zD,zC,zA,zB,zJ,Value.cells] at hS);(try simp only [Act.put])) ))
            go_roundg k
            case measure=>exact Nat.lt_succ_self k
            case rel=>exact ⟨false,m3,p2,q1,rfl,HI3.out,HM.out,HA2.out,HQ1.out,hS.drop⟩
        | err er =>
          simp only at hm
          simp only [tryE,stopV,sideE] at H1
          by_cases hr:er=7∧room=false
          · rw [if_pos hr] at hm
            obtain ⟨rfl,rfl⟩:=hr
            cases hh:m2.collect with
            | none=>rw [hh] at hm;cases hm
            | some x =>
              obtain ⟨m3,kk⟩:=x
              rw [hh] at hm
              simp only [zK] at hm
              have H2:=yH (fun (p:PH) (ms':List PH) (w:World) (hA:MgAt D m2 p) (h:Sat E I (p::ms') w)=>mcollect_any hh (HK.out.sane _ hI2) hA h)
              have hI3:Inv m3:=by
               unfold G.Mg.collect at hh
               cases hc:m2.s.collect with
               | none=>rw [hc] at hh;cases hh
               | some y=>rw [hc] at hh;cases hh;exact HK.out.coll _ _ _ hI2 hc
              have HI3:=yH hI3
              have HM:=yH hm
              clear hh hI2 hI3 hm
              go_wp2_with (first|(go_at_call 125;(with_reducible refine yI (H1.out _ hS) ?_);clear hS;rintro e w ⟨rfl,p1,q1,hA1,hQ1,hS⟩;have HA1:=yH hA1;have HQ1:=yH hQ1;clear hA1 hQ1)|(go_at_call 127;(with_reducible refine yI (H2.out _ _ _ HA1.out (hS.pick 1 rfl)) ?_);clear hS;rintro e w ⟨rfl,p2,hA2,hS⟩;have HA2:=yH hA2;clear hA2;replace hS:=Sat.back (m:=p1) 1 rfl hS;simp only [zF,zG] at hS)|((with_reducible refine Qc ?_);first|((with_reducible refine Ql 6 ?_);(refine' al (z:=_) hS rfl rfl ?ha ?_);(case ha=>exact ty_z154);clear hS;intro X6 w hS;(try simp only [Value.cells] at hS);(try simp only [Act.put,zE,zF,zG]))|((with_reducible refine Qp ?_);  ((with_reducible refine Qi ?hw ?_);case hw=>(simp only [Region.wanted,yielded,zC,zA,zB,zK,beq_self_eq_true];done)) )|((with_reducible refine Qb ?_);( (refine ld1 0 hS rfl rfl ?ha rfl rfl rfl ?_;(case ha=>first|exact Yb|exact ty_agg26)) );(try simp only [Act.put,zE,zF,zG]))|((with_reducible refine Qn ?_);(first|(refine stN 0 hS rfl rfl rfl rfl rfl ?ha rfl rfl ?_;(case ha=>exact Xh)));clear hS;intro w hS;(try simp only [zG,Act.eval,zD,zC,zA,zB,zJ,Value.cells] at hS);(try simp only [Act.put])) ))
              go_roundg k
              case measure=>exact Nat.lt_succ_self k
              case rel=>exact ⟨true,m3,p2,q1,rfl,HI3.out,HM.out,HA2.out,HQ1.out,hS.drop⟩
          · rw [if_neg hr] at hm
            cases hm
            have dn:((er:Int) == 7)=false∨(((er:Int) == 7)=true∧room=true):=by
             by_cases e1:er=7
             · refine .inr ⟨by simp only [beq_iff_eq];omega,?_⟩
               cases room with
               | true=>rfl
               | false=>exact absurd ⟨e1,rfl⟩ hr
             · exact .inl (by simp;omega)
            clear hr
            rcases dn with d1|⟨d1,rfl⟩
            all_goals
             go_wp2_with (first|(go_at_call 125;(with_reducible refine yI (H1.out _ hS) ?_);clear hS;rintro e w ⟨rfl,p1,q1,hA1,hQ1,hS⟩;have HA1:=yH hA1;have HQ1:=yH hQ1;clear hA1 hQ1)|((with_reducible refine Qc ?_);first|((with_reducible refine Ql 6 ?_);(refine' al (z:=_) hS rfl rfl ?ha ?_);(case ha=>exact ty_z154);clear hS;intro X6 w hS;(try simp only [Value.cells] at hS);(try simp only [Act.put,zE,zF,zG]))|((with_reducible refine Qp ?_);  ((with_reducible refine Qi ?hw ?_);case hw=>(simp only [Region.wanted,yielded,zC,zA,zB,zK,beq_self_eq_true];done)) )|((with_reducible refine Qb ?_);( (refine ld1 0 hS rfl rfl ?ha rfl rfl rfl ?_;(case ha=>first|exact Yb|exact ty_agg26)) );(try simp only [Act.put,zE,zF,zG]))|((with_reducible refine Qn ?_);(first|(refine stN 0 hS rfl rfl rfl rfl rfl ?ha rfl rfl ?_;(case ha=>exact Xh)));clear hS;intro w hS;(try simp only [zG,Act.eval,zD,zC,zA,zB,zJ,Value.cells] at hS);(try simp only [Act.put])) ))
             go_ret
             exact ⟨rfl,p1,q1,HA1.out,HQ1.out,hS.drop⟩
end
end Go.Proofs.YtidamcdklgfogaaGreat
