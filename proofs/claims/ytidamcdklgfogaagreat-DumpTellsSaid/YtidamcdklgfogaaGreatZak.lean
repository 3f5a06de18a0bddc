import Derived.Test.YtidamcdklgfogaaGreatZab
import Derived.Test.YtidamcdklgfogaaGreatZaj
import Derived.Test.YtidamcdklgfogaaGreatZaf
set_option linter.unusedSimpArgs false
set_option linter.unusedVariables false
set_option maxRecDepth 100000
set_option maxHeartbeats 30000000
namespace Go.Proofs.YtidamcdklgfogaaGreat
section
open Go.RowKit
theorem Yt:Kz Tryz.prog 204=some true:=by kernel_rfl
theorem Zu:Ko Tryz.prog 204=some 2:=by kernel_rfl
theorem ty_z204:Xb Tryz.prog 204=some (.agg #[.int .i64 0,.int .i64 0]):=by kernel_rfl
theorem res6 {P:Program} {fn:Func} {tmps:Array Value} {w:World} {r1 r2 r3 r4 r5 r6:ResultVar} {v1 v2 v3 v4 v5 v6:Value} (h:fn.results = #[r1,r2,r3,r4,r5,r6]) (h1:RV P w tmps r1 v1) (h2:RV P w tmps r2 v2) (h3:RV P w tmps r3 v3) (h4:RV P w tmps r4 v4) (h5:RV P w tmps r5 v5) (h6:RV P w tmps r6 v6):(results fn tmps).run P w=.ok (.tuple #[v1,v2,v3,v4,v5,v6]) w:=by
 have e1:=rv_run h1
 have e2:=rv_run h2
 have e3:=rv_run h3
 have e4:=rv_run h4
 have e5:=rv_run h5
 have e6:=rv_run h6
 simp [results_sem,h,e1,e2,e3,e4,e5,e6]
def iteV:Nat ⊕ (Nat × Nat × Nat × Bool)→Value
 | .inl r=>.tuple #[.int .i64 0,.int .i64 0,.int .i64 0,.bool false,nv r,.bool true]
 | .inr (a,b,c,n)=>.tuple #[nv a,nv b,nv c,.bool n,.int .i64 0,.bool false]
theorem eq_e2 (w:World) (x y u v:Int):(Op.equal 204 (.agg #[.int .i64 x,.int .i64 y]) (.agg #[.int .i64 u,.int .i64 v])).run Tryz.prog w=.ok (decide ((x,y)=(u,v))) w :=
 eq_ekey (e:=102) (by kernel_rfl) (by kernel_rfl) (by kernel_rfl) (by kernel_rfl) w (x,y) (u,v)
theorem egt_e2:Tryz.prog.eqGuardType Tryz.prog.depth 204=false:=by kernel_rfl
theorem bin_e2 (w:World) (x y u v:Int):(binOp .eql 204 (.agg #[.int .i64 x,.int .i64 y]) (.agg #[.int .i64 u,.int .i64 v])).run Tryz.prog w=.ok (.bool (decide (x=u) && decide (y=v))) w:=by
 simp only [binOp,Sem.run_bind,eq_e2,Result.andThen_ok,Sem.run_pure,Prod.mk.injEq,Bool.decide_and]
theorem isEqA {P:Program} {a:Act} {w:World} {Q:Exit→Act→World→Prop} {ops:Array Oper} {rest:List Oper} {dst:Option Tmp} {type:TypeId} {pos:String} {after:Array Edge} {x y:Operand} (h:wpList P ops Q (⟨dst,.binOp .eql 204 x y 204,type,pos,after,none⟩::rest) a w):wpList P ops Q (⟨dst,.binOp .eql 204 x y 204,type,pos,after,none⟩::rest) a w:=h
theorem eqA {P:Program} {a:Act} {w:World} {Q:Exit→Act→World→Prop} {ops:Array Oper} {rest:List Oper} {o:Oper} (hg:o.guard=none) {b:BinOp} {T U:TypeId} {x y:Operand} (ho:o.op=.binOp b T x y U) {v u r:Value} (hx:a.eval x=v) (hy:a.eval y=u) (he:(eqGuard b T x y v u).run P w=.ok () w) (hr:(binOp b T v u).run P w=.ok r w) (h:wpList P ops Q rest (a.put o.dst r) w):wpList P ops Q (o::rest) a w :=
 wpList_plain hg fun _ hK=>by
  unfold Oper.wp execOp
  simp only [ho,hx,hy,Sem.run_bind,he,hr,Result.andThen_ok,Sem.run_pure]
  exact hK _ _ h
def iteT (f g h:Nat):Nat ⊕ (Nat × Nat × Nat × Bool) :=
 if f=0∨g=h then .inl g
 else if f=1 then .inl h
 else if g=0∧h=1 then .inl f
 else if g=1∧h=0 then .inl (G.flip f)
 else if f % 2=1 then .inr (G.flip f,G.flipIf h (h % 2 == 1),G.flipIf g (h % 2 == 1),h % 2 == 1)
 else .inr (f,G.flipIf g (g % 2 == 1),G.flipIf h (g % 2 == 1),g % 2 == 1)
theorem iteE_T (f g h:Nat):G.iteE f g h=iteT f (if g=f then 0 else if g=G.flip f then 1 else g) (if h=f then 1 else if h=G.flip f then 0 else h):=by
 unfold G.iteE iteT
 generalize (if g=f then 0 else if g=G.flip f then 1 else g)=g'
 generalize (if h=f then 1 else if h=G.flip f then 0 else h)=h'
 by_cases c:f % 2=1
 · simp only [if_pos c]
 · simp only [if_neg c]
theorem eite_any {w:World} (f g h:Nat) (hf:f<4611686018427387904) (hg:g<4611686018427387904) (hh:h<4611686018427387904):Calls Tryz.prog 106 #[nv f,nv g,nv h] w fun e w'=>e=.returned (iteV (G.iteE f g h))∧w=w':=by
 have hff:=flip_lt hf
 have HN:=yH (fun w':World=>enot_any (w:=w') f hf)
 have HG:=yH (fun (w':World) (n:Nat)=>eneg_any (w:=w') n)
 have HP:=yH (fun (w':World) (n:Nat) (b:Bool) (h:n<4611686018427387904)=>Xg (w:=w') n b h)
 have HP0:Hid (∀ (w':World) (b:Bool),Calls Tryz.prog 50 #[.int .i64 0,.bool b] w' fun e w''=>e=.returned (nv (G.flipIf 0 b))∧w'=w''):=yH fun w' b=>Xg (w:=w') 0 b (by omega)
 have HP1:Hid (∀ (w':World) (b:Bool),Calls Tryz.prog 50 #[.int .i64 1,.bool b] w' fun e w''=>e=.returned (nv (G.flipIf 1 b))∧w'=w''):=yH fun w' b=>Xg (w:=w') 1 b (by omega)
 have HG0:Hid (∀ (w':World),Calls Tryz.prog 51 #[.int .i64 0] w' fun e w''=>e=.returned (.bool (0 % 2 == 1))∧w'=w''):=yH fun w'=>eneg_any (w:=w') 0
 have HG1:Hid (∀ (w':World),Calls Tryz.prog 51 #[.int .i64 1] w' fun e w''=>e=.returned (.bool (1 % 2 == 1))∧w'=w''):=yH fun w'=>eneg_any (w:=w') 1
 rw [iteE_T]
 generalize hx:G.flip f=ff at *
 have HX:=yH hx
 clear hx
 go_enter Tryz.func106,Tryz.ntmps106
 go_wp2_with (first|((with_reducible refine isEqA ?_);(refine eqA rfl rfl rfl rfl (run_eqGuard_agg _ _ _ _ _ _ _ egt_e2) (bin_e2 _ _ _ _ _) ?_);(try simp only [Act.put,zE,zF,zG]))|(go_at_call 93;(with_reducible refine yI (HN.out _) ?_);rintro e w9 ⟨rfl,rfl⟩)|(go_at_call 51;( (with_reducible refine yI (HG.out _ _) ?_) );rintro e w9 ⟨rfl,rfl⟩)|(go_at_call 50;(first|(with_reducible refine yI (HP.out _ _ _ (by omega)) ?_)|(with_reducible refine yI (HP0.out _ _) ?_)|(with_reducible refine yI (HP1.out _ _) ?_));rintro e w9 ⟨rfl,rfl⟩))
 all_goals refine bodyPost_ret (res6 rfl (rvt rfl) (rvt rfl) (rvt rfl) (rvt rfl) (rvt rfl) (rvt rfl)) rfl ?_
 all_goals refine ⟨congrArg Ending.returned ?_,rfl⟩
 all_goals clear HN HG HP HP0 HP1 HG0 HG1
 all_goals try simp only [zD,zC,zA,zB,zJ]
 all_goals try simp only [beq_iff_eq,beq_eq_false_iff_ne,ne_eq,not_true_eq_false,false_or,or_false,true_and,and_true] at *
 all_goals unfold iteT
 all_goals simp only [HX.out]
 all_goals clear HX
 all_goals (repeat' split)
 all_goals first|rfl|(exfalso;omega)|(exfalso;simp only [true_or,or_true,true_and,and_true,and_self,not_true_eq_false] at *;done)|(exfalso;simp only [true_and,and_true] at *;omega)
end
section
open Go.RowKit
def iv (j:Nat):Value:=.int .i64 (j:Int)
def idC (i n:Nat):Array Value:=((List.range i).map iv ++ List.replicate (n - i) (Value.int .i64 0)).toArray
theorem idC_size {i n:Nat} (h:i≤n):(idC i n).size=n:=by simp [idC];omega
theorem idC_set {i n:Nat} (h:i<n):(idC i n).setIfInBounds i (.int .i64 (i:Int))=idC (i+1) n:=by
 apply Array.ext'
 rw [Array.toList_setIfInBounds]
 unfold idC
 simp only
 rw [List.set_append_right _ _ (by simp),List.length_map,List.length_range,Nat.sub_self,show n - i=(n - (i+1))+1 by omega,List.replicate_succ,zG,List.range_succ,List.map_append]
 simp [iv]
theorem made_int (n:Nat):madeCells (Value.cells (.int .i64 0)) (n * 1)=idC 0 n:=by
 unfold madeCells idC Value.cells
 apply Array.ext
 · simp
 · intro i h1 h2
   simp [Nat.mod_one]
theorem ident_any (E:World) (I:PH) (ms:List PH) (n:Nat) (w:World) (hn:n≤64) (hS:Sat E I ms w) :
  Calls Tryz.prog 114 #[.int .i64 (n:Int)] w fun e w'=>∃ X,e=.returned (.slice (some ⟨X,0,none⟩) n n)∧Sat E I (PH.one X (.cells (idC n n) 3)::ms) w':=by
 have hmin:min (max (n:Int) 0) 64=(n:Int):=by omega
 have hmax:max (n:Int) 0=(n:Int):=by omega
 have hmin2:min (n:Int) 64=(n:Int):=by omega
 go_enter Tryz.func114,Tryz.ntmps114
 go_wp2_with ( ((with_reducible refine isMake ?_);refine mks hS rfl rfl Tryz.underlying23 int_info rfl rfl rfl rfl (Nat.le_refl _) (by omega) (by omega) ?_;clear hS;intro X w hS;(try simp only [Act.put,zE,zF,zG])) )
 rw [made_int] at hS
 clear hmin hmin2 hmax
 go_loopw [11] (fun v11 wr=>∃ i:Nat,i≤n∧v11=.int .i64 (i:Int)∧Sat E I (PH.one X (.cells (idC i n) 3)::ms) wr) (fun v11 _=>(n - intOf v11).toNat)
 case atStart=>exact ⟨0,by omega,rfl,hS⟩
 case round =>
  clear hS
  obtain ⟨i,hi,rfl,hS⟩:=hrel
  by_cases hlt:i<n
  · have hsz:=idC_size hi
    have hst:=idC_set hlt
    have i1:(i:Int)<n:=by omega
    have HST:=yH hst
    have HSZ:=yH hsz
    clear hst hsz
    go_wp2_with ( ((with_reducible refine Qn ?_);refine st1 0 hS rfl rfl rfl rfl rfl Kk rfl rfl (by rw [HSZ.out];exact hlt) ?_;clear hS;intro w hS;(try simp only [zG,Act.eval,zD,zC,zA,zB,zJ] at hS);(try simp only [Act.put])) )
    rw [HST.out] at hS
    go_roundw
    case rel=>exact ⟨i+1,by omega,by go_num,hS⟩
    case measure=>simp [intOf];omega
  · have hin:i=n:=by omega
    subst hin
    go_wp2
    go_ret
    exact ⟨X,rfl,hS⟩
theorem mnew_any (E:World) (I:PH) (ms:List PH) (w:World) (hS:Sat E I ms w) :
  Calls Tryz.prog 70 #[.int .i64 4096] w fun e w'=>∃ X,e=.returned (.pointer (some ⟨X,0,none⟩))∧Sat E I (PH.one X (.cells #[.int .i64 4096,.slice none 0 0,.int .i64 0,.int .i64 0] 184)::ms) w':=by
 go_enter Tryz.func70,Tryz.ntmps70
 go_wp2_with (first|((with_reducible refine Qc ?_);  ((with_reducible refine isBox ?_);refine bx hS rfl rfl rfl ?_;clear hS;intro X w hS;(try simp only [Act.eval,zD,zC,zA,zB,zJ,Value.cells] at hS);(try simp only [Act.put,zE,zF,zG])) ))
 go_ret
 exact ⟨_,rfl,hS⟩
end
section
open Go.RowKit
theorem tabp_info:(Tryz.prog.info? 180).map (fun i=>(i.zero,i.size,i.bytes))=some (some (.pointer none),1,8):=by kernel_rfl
theorem Zi:Kz Tryz.prog 162=some false:=by kernel_rfl
theorem ty_sz162:Ko Tryz.prog 162=some 1:=by kernel_rfl
theorem Kx:Kz Tryz.prog 180=some false:=by kernel_rfl
theorem ty_agg160:Kz Tryz.prog 160=some false:=by kernel_rfl
theorem Kg:Kz Tryz.prog 161=some false:=by kernel_rfl
def tabs (l:List (Nat × Nat)):List PH:=l.flatMap fun t=>[tbv t.1 t.2,tbm t.2 [] 0]
def tabVs (l:List (Nat × Nat)):List Value:=l.map fun t=>vPt t.1
def stV (L P:Nat) (v:Value):Array Value := #[vPt L,vPt P,v,.slice none 0 0,.int .i64 0]
def mkG (S L P:Nat) (v:Value) (m:PH) (l:List (Nat × Nat)) (rest:List PH) (s:Nat) (vals:Nat→Value) (_:PH) (ns:List PH):Prop :=
 match s with
 | 0=>ns=PH.one S (.cells (stV L P v) 164)::m::rest
 | 1=>∃ g M,vals 5=vPt g∧ns=tbv g M::tbm M [] 0::PH.one S (.cells (stV L P v) 164)::m::rest
 | 2=>∃ g M Y,vals 6=vSl 1 Y∧ns=PH.one Y (.cells #[vPt g] 180)::tbv g M::tbm M [] 0::PH.one S (.cells (stV L P v) 164)::m::rest
 | 3=>∃ g M Y m',OwnP m' 180 1 (vals 7) (l.length+1) (tabVs (l ++ [(g,M)]))∧ns=PH.one Y (.cells #[vPt g] 180)::tbv g M::tbm M [] 0::PH.one S (.cells (stV L P v) 164)::m'::rest
 | _=>∃ g M Y m',OwnP m' 180 1 (vals 7) (l.length+1) (tabVs (l ++ [(g,M)]))∧ns=PH.one Y (.cells #[vPt g] 180)::tbv g M::tbm M [] 0::PH.one S (.cells (stV L P (vals 7)) 164)::m'::rest
theorem mkG.gst {S L P:Nat} {v:Value} {m:PH} {l:List (Nat × Nat)} {rest:List PH} (s:Nat) (vals vals':Nat→Value) (J:PH) (ns:List PH) (h:∀ j ∈ [5,6,7,10].take s,vals j=vals' j) (hg:mkG S L P v m l rest s vals J ns):mkG S L P v m l rest s vals' J ns:=by
 match s,h,hg with
 | 0,h,hg=>exact hg
 | 1,h,hg=>obtain ⟨g,M,h1,h2⟩:=hg;exact ⟨g,M,by rw [← h 5 (by decide)];exact h1,h2⟩
 | 2,h,hg=>obtain ⟨g,M,Y,h1,h2⟩:=hg;exact ⟨g,M,Y,by rw [← h 6 (by decide)];exact h1,h2⟩
 | 3,h,hg=>obtain ⟨g,M,Y,m',h1,h2⟩:=hg;exact ⟨g,M,Y,m',by rw [← h 7 (by decide)];exact h1,h2⟩
 | s+4,h,hg=>obtain ⟨g,M,Y,m',h1,h2⟩:=hg;exact ⟨g,M,Y,m',by rw [← h 7 (by simp)];exact h1,by rw [← h 7 (by simp)];exact h2⟩
theorem mkG.mem {S L P:Nat} {v:Value} {m:PH} {l:List (Nat × Nat)} {rest:List PH} {s:Nat} {vals:Nat→Value} {J:PH} {ns:List PH} (hs:s≤2) (h:mkG S L P v m l rest s vals J ns):PH.one S (.cells (stV L P v) 164) ∈ ns:=by
 match s,hs,h with
 | 0,_,h=>rw [show ns=_ from h];simp
 | 1,_,h=>obtain ⟨g,M,_,h⟩:=h;rw [h];simp
 | 2,_,h=>obtain ⟨g,M,Y,_,h⟩:=h;rw [h];simp
theorem perm_tab (a b S m:PH) (X:List PH):(a::b::S::m::X).Perm (S::m::a::b::X) :=
 (List.perm_append_comm (l₁:=[a,b]) (l₂:=[S,m])).append_right X
def stP (S L P V1 V2 A T:Nat) (n:Nat) (room:Int) (v:Value) (m:PH) (l:List (Nat × Nat)):List PH :=
 PH.one S (.cells (stV L P v) 164)::m::tabs l ++ [PH.one L (.cells #[vSl n V1,vSl n V2] 166),PH.one V2 (.cells (idC n n) 3),PH.one V1 (.cells (idC n n) 3),PH.one P (.cells #[.int .i64 room,vSl 1 A,vSl 1 T,.slice none 0 0,.int .i64 0] 216),PH.one A (.cells node0 194),PH.one T (.cells #[.bool false] 4)]
theorem nnew_ok (E:World) (I:PH) (ms:List PH) (n:Nat) (room:Int) (w:World) (hn:n≤64) (h1:1≤room) (h2:room≤1048576) (hS:Sat E I ms w) :
  Calls Tryz.prog 69 #[.int .i64 (n:Int),.int .i64 room] w fun e w'=>∃ S L P V1 V2 A T v m l,e=.returned (.tuple #[vPt S,.int .i64 0])∧l.length=n∧OwnP m 180 1 v n (tabVs l) ∧
   Sat E I (stP S L P V1 V2 A T n room v m l ++ ms) w':=by
 have hn0:(0:Int)≤(n:Int):=by omega
 have hn1:(n:Int)≤64:=by omega
 go_enter Tryz.func69,Tryz.ntmps69
 go_wp2_with (first|(go_at_call 113;(with_reducible refine yI (pnew_ok _ _ _ _ _ h1 h2 hS) ?_);clear hS;rintro e w ⟨P,A,T,rfl,hS⟩))
 refine (ident_any _ _ _ _ _ hn hS).mono ?_
 clear hS
 rintro e w ⟨V1,rfl,hS⟩
 go_wp2_with fail
 refine (ident_any _ _ _ _ _ hn hS).mono ?_
 clear hS
 rintro e w ⟨V2,rfl,hS⟩
 go_wp2_with (first|((with_reducible refine Qc ?_);first|((with_reducible refine Za 26 ?_);refine bx hS rfl rfl rfl ?_;clear hS;intro L w hS;(try simp only [Act.eval,zD,zC,zA,zB,zJ,Value.cells] at hS);(try simp only [Act.put,zE,zF,zG]))|((with_reducible refine Za 29 ?_);refine bx hS rfl rfl rfl ?_;clear hS;intro S w hS;(try simp only [Act.eval,zD,zC,zA,zB,zJ,Value.cells] at hS);(try simp only [Act.put,zE,zF,zG])) ))
 have hS0:Sat E I (stP S L P V1 V2 A T n room (.slice none 0 0) (fun _=>none) [] ++ ms) w:=hS.empty.perm (List.Perm.swap _ _ _)
 clear hS
 go_loopw [31] (fun v31 wr=>∃ v m l,l.length≤n∧v31=.int .i64 ((l.length:Nat):Int)∧OwnP m 180 1 v l.length (tabVs l)∧Sat E I (stP S L P V1 V2 A T n room v m l ++ ms) wr) (fun v31 _=>(n - intOf v31).toNat)
 case atStart=>exact ⟨_,_,[],by simp,rfl,OwnP.nil _ _,hS0⟩
 case round =>
  clear hS0
  obtain ⟨v,m,l,hl,rfl,hO,hS⟩:=hrel
  by_cases hlt:l.length<n
  · have i1:(l.length:Int)<n:=by omega
    go_wp2_with fail
    have hS1:Sat E I (PH.one S (.cells (stV L P v) 164)::m::(tabs l ++ [PH.one L (.cells #[vSl n V1,vSl n V2] 166),PH.one V2 (.cells (idC n n) 3),PH.one V1 (.cells (idC n n) 3),PH.one P (.cells #[.int .i64 room,vSl 1 A,vSl 1 T,.slice none 0 0,.int .i64 0] 216),PH.one A (.cells node0 194),PH.one T (.cells #[.bool false] 4)] ++ ms)) wr:=by
     unfold stP at hS
     simpa only [List.cons_append,List.append_assoc] using hS
    clear hS
    generalize hrest:tabs l ++ _ ++ ms=rest at hS1
    refine Qx [[],[],[1],[1,2],[1,2,3],[],[5],[1,2,3,4,5,6],[0,1,2,3,4,5,6,7],[0,1,2,3,4,5,6,7,8],[0,1,2,3,4,5,6,7,8,9]] E I _
     [fun v _=>v=vPt S,fun v _=>v=vPt S,fun v _=>v=vPt S,fun v _=>v=.pointer (some ⟨S,2,none⟩),fun x _=>x=v,fun _ _=>True,fun _ _=>True,fun _ _=>True,fun v _=>v=vPt S,fun v _=>v=.pointer (some ⟨S,2,none⟩),fun _ _=>True] [5,6,7,10] (mkG S L P v m l rest) (by kernel_rfl) (by kernel_rfl) (by decide) hS1 rfl ?last mkG.gst (fun s vals J J' ns _ h=>h) ?plain ?step ?fin
    case last=>repeat (first|exact Lasting.nil|refine Lasting.cons (fun _ _ _ _ h=>h) ?_)
    case plain =>
     repeat' (first|exact trivial|apply And.intro)
     all_goals first|exact .inl rfl|skip
     all_goals
      refine .inr ?_
      intro s vals J bs w hstop hg hJ hS hG
      first
      | (refine Veil.out ?_
         have hmem:=hG.mem (Nat.le_trans hstop (by decide))
         refine ⟨?_⟩
         simp only [zH,zI,Given,Facts] at hg;simp only [Qd,Qh,Qe,Qj,zH,zI,zA,zB,zK,if_true,Act.put,zE,zF,zG,hg];refine ⟨?_⟩;refine Qg (fun K hK=>?_);have HK:=yH hK;clear hK;rw [if_pos (by rfl)]
         refine wp_ldo1 hS hmem Zi rfl rfl ?_
         refine HK.out _ _ ⟨rfl,J,PH.le.refl _,hS,?_⟩
         clear HK
         simp only [Facts]
         simp only [Qo,zH,zI,Act.put,zE,zF,zG,zD,zC,zA,zB,zJ])
      | (simp only [zH,zI,Given,Facts] at hg;simp only [Qd,Qh,Qe,Qj,zH,zI,zA,zB,zK,if_true,Act.put,zE,zF,zG,hg];refine ⟨?_⟩;refine Qg (fun K hK=>?_);have HK:=yH hK;clear hK;rw [if_pos (by rfl)];go_wp2_with fail;refine HK.out _ _ ⟨rfl,J,PH.le.refl _,hS,?_⟩;clear HK;simp only [Facts];simp only [Qo,zH,zI,zD,zC,zA,zB,zJ])
    case step =>
     refine ⟨⟨⟨⟨trivial,?_⟩,?_⟩,?_⟩,?_⟩
     · intro vals J bs w hg hJ hS hG
       have hG:bs=_:=hG
       subst hG
       simp only [zH,zI,Given,Facts] at hg;simp only [Qd,Qh,Qe,Qj,zH,zI,zA,zB,zK,if_true,Act.put,zE,zF,zG];refine ⟨?_⟩;refine Qg (fun K hK=>?_);have HK:=yH hK;clear hK;rw [if_pos (by rfl)]
       go_wp2_with (go_at_call 115;(with_reducible refine yI (new_any _ _ _ _ hS) ?_);clear hS;rintro e w ⟨g,M,rfl,hS⟩)
       refine HK.out _ _ ⟨rfl,J,_,PH.le.refl _,hS,trivial,g,M,?_,rfl⟩
       simp only [Kl]
       simp only [Qo,zD,zC,zA,zB,zJ]
     · intro vals J bs w hg hJ hS hG
       refine Veil.out ?_
       obtain ⟨g,M,h5,hns⟩:=hG
       subst hns
       refine ⟨?_⟩
       simp only [Qd,Qh,Qe,Qj,zH,zI,zA,zB,zK,if_true,Act.put,zE,zF,zG,h5];refine ⟨?_⟩;refine Qg (fun K hK=>?_);have HK:=yH hK;clear hK;rw [if_pos (by rfl)]
       refine wp_bsl hS (fun w0=>by go_simp;rfl) fun Y w hS=>?_
       refine HK.out _ _ ⟨rfl,J,_,PH.le.refl _,hS,trivial,g,M,Y,?_,?_⟩
       · simp only [Kl]
         simp only [Qo,Act.put,zE,zF,zG,zD,zC,zA,zB,zJ]
       · simp only []
     · intro vals J bs w hg hJ hS hG
       refine Veil.out ?_
       obtain ⟨g,M,Y,h6,hns⟩:=hG
       have h4:vals 4=v:=hg.get 4 (by decide)
       subst hns
       refine ⟨?_⟩
       simp only [Qd,Qh,Qe,Qj,zH,zI,zA,zB,zK,if_true,Act.put,zE,zF,zG,h4,h6];refine ⟨?_⟩;refine Qg (fun K hK=>?_);have HK:=yH hK;clear hK;rw [if_pos (by rfl)]
       refine wp_apP (p:=PH.one Y (.cells #[vPt g] 180)) (m:=m) (v:=v) (n:=l.length) (xs:=tabVs l) (news:=[vPt g]) hS 4 rfl (.inr (List.Mem.head _)) rfl Tryz.underlying162 tabp_info rfl (by decide) rfl hO rfl rfl (Cells.one _ _ _ _) rfl (by unfold maxLen;omega) (by omega) fun v' m' w hO' hS=>?_
       refine HK.out _ _ ⟨rfl,J,_,PH.le.refl _,hS,trivial,g,M,Y,m',?_,?_⟩
       · simp only [Kl]
         simp only [Qo,Act.put,zE,zF,zG,zD,zC,zA,zB,zJ]
         unfold tabVs
         rw [List.map_append]
         exact hO'
       · simp only [zF,zG]
     · intro vals J bs w hg hJ hS hG
       refine Veil.out ?_
       obtain ⟨g,M,Y,m',hO',hns⟩:=hG
       obtain ⟨A1,c1,h7,_⟩:=hO'.shape
       have h9:vals 9=.pointer (some ⟨S,2,none⟩):=hg.get 9 (by decide)
       subst hns
       refine ⟨?_⟩
       simp only [Qd,Qh,Qe,Qj,zH,zI,zA,zB,zK,if_true,Act.put,zE,zF,zG,h9,h7];refine ⟨?_⟩;refine Qg (fun K hK=>?_);have HK:=yH hK;clear hK;rw [if_pos (by rfl)]
       refine wp_st1 hS 3 rfl rfl rfl rfl ty_sz162 rfl rfl (by simp [stV]) fun w hS=>?_
       refine HK.out _ _ ⟨rfl,J,_,PH.le.refl _,hS,trivial,g,M,Y,m',?_,?_⟩
       · exact hO'
       · rw [Kj _ _ (by decide),h7]
         rfl
    case fin =>
     intro vals J bs w hJ hg hS hG
     obtain ⟨g,M,Y,m',hO',hns⟩:=hG
     subst hns
     have hS:=hS.less hJ
     simp only [yB,yC,Nat.reduceAdd,Below_,Facts,zH,zI,true_and,and_true] at hg;simp only [yB,yC,Nat.reduceAdd,Qd,Qh,Qe,zA,zB,zK,if_true,Act.put,zE,zF,zG,hg];refine ⟨?_⟩
     clear hg
     go_wp2
     refine ⟨⟨vals 7,m',l ++ [(g,M)],by simp;omega,by simp,by simpa using hO',?_⟩,by simp [intOf];omega⟩
     have h1:=hS.drop.perm (perm_tab _ _ _ _ _)
     subst hrest
     refine h1.perm ?_
     unfold stP
     have ht:tabs (l ++ [(g,M)])=tabs l ++ [tbv g M,tbm M [] 0]:=by simp [tabs]
     rw [ht]
     simp only [List.cons_append,List.append_assoc]
     refine .cons _ (.cons _ ?_)
     exact ((List.perm_append_comm (l₁:=[tbv g M,tbm M [] 0]) (l₂:=tabs l)).append_right _).trans (.of_eq (by simp))
  · have hln:l.length=n:=by omega
    have hlt2:decide ((l.length:Int)<n)=false:=by rw [decide_eq_false_iff_not];omega
    go_wp2
    go_ret2
    exact ⟨S,L,P,V1,V2,A,T,v,m,l,rfl,hln,by rw [← hln];exact hO,hS⟩
end
end Go.Proofs.YtidamcdklgfogaaGreat
