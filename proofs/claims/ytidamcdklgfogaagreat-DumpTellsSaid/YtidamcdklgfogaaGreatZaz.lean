import Derived.Test.YtidamcdklgfogaaGreatZab
import Derived.Test.YtidamcdklgfogaaGreatZay
import Derived.Test.YtidamcdklgfogaaGreatZag
set_option linter.unusedSimpArgs false
set_option linter.unusedVariables false
set_option maxRecDepth 100000
set_option maxHeartbeats 8000000
namespace Go.Proofs.YtidamcdklgfogaaGreat
namespace G
theorem sorted_ins (x:Nat):∀ {l:List Nat},l.Pairwise (·≤·)→(ins x l).Pairwise (·≤·)
 | [],_=>by simp [ins]
 | y::l,h=>by
   unfold ins
   rw [List.pairwise_cons] at h
   split
   · rename_i hxy
     rw [List.pairwise_cons,List.pairwise_cons]
     exact ⟨fun a ha=>by rcases List.mem_cons.1 ha with rfl|ha;exact hxy;exact Nat.le_trans hxy (h.1 a ha),h.1,h.2⟩
   · rename_i hxy
     rw [List.pairwise_cons]
     exact ⟨fun a ha=>by rcases mem_ins.1 ha with rfl|ha;omega;exact h.1 a ha,sorted_ins x h.2⟩
theorem sorted_isort:∀ l:List Nat,(isort l).Pairwise (·≤·)
 | []=>by simp [isort]
 | x::l=>sorted_ins x (sorted_isort l)
theorem perm_ins (x:Nat):∀ l:List Nat,(ins x l).Perm (x::l)
 | []=>List.Perm.refl _
 | y::l=>by
   unfold ins
   split
   · exact List.Perm.refl _
   · exact ((perm_ins x l).cons y).trans (List.Perm.swap _ _ _)
theorem perm_isort:∀ l:List Nat,(isort l).Perm l
 | []=>List.Perm.refl _
 | x::l=>(perm_ins x _).trans ((perm_isort l).cons x)
def St.tdOf (s:St) (y id:Nat):Option Td:=match s.nd id with
 | none=>none
 | some n=>if (s.split n.lo y).1≠(s.split n.lo y).2∨(s.split n.hi y).1≠(s.split n.hi y).2 then some ⟨id,n,(s.split n.lo y).1,(s.split n.lo y).2,(s.split n.hi y).1,(s.split n.hi y).2⟩ else none
theorem St.turnOf_eq {s:St} {y:Nat}:∀ {l:List Nat} {r:List Td},s.turnOf y l=some r→r=l.filterMap (s.tdOf y)∧∀ id ∈ l,(s.nd id).isSome=true
 | [],r,h=>by cases h;exact ⟨rfl,fun id h=>by cases h⟩
 | id::l,r,h=>by
   unfold St.turnOf at h
   cases hn:s.nd id with
   | none=>rw [hn] at h;cases h
   | some n =>
     rw [hn] at h
     simp only [Option.map_eq_some_iff] at h
     obtain ⟨r',h1,h2⟩:=h
     obtain ⟨h3,h4⟩:=St.turnOf_eq h1
     refine ⟨?_,fun i hi=>by rcases List.mem_cons.1 hi with rfl|hi;rw [hn];rfl;exact h4 i hi⟩
     have ht:s.tdOf y id=if (s.split n.lo y).1≠(s.split n.lo y).2∨(s.split n.hi y).1≠(s.split n.hi y).2 then some ⟨id,n,(s.split n.lo y).1,(s.split n.lo y).2,(s.split n.hi y).1,(s.split n.hi y).2⟩ else none:=by unfold St.tdOf;rw [hn]
     rw [List.filterMap_cons,ht,← h2,h3]
     by_cases hc:(s.split n.lo y).1≠(s.split n.lo y).2∨(s.split n.hi y).1≠(s.split n.hi y).2
     · rw [if_pos hc,if_pos hc]
     · rw [if_neg hc,if_neg hc]
end G
section
open Go.ChangeShapes Go.WideShapes Go.ChangeAt Go.RowKit Go.Lib Go.Sort
attribute [local go_sem] Oper.semAt_some
attribute [local go_sem ↓] wpIn_at_zero wpIn_at_succ
theorem ty_agg225:Kz Tryz.prog 225=some true:=by kernel_rfl
theorem Xz:Ko Tryz.prog 225=some 9:=by kernel_rfl
theorem ty_z225:Xb Tryz.prog 225=some (.agg #[.int .i64 0,.int .i64 0,.int .i64 0,.int .i64 0,.int .i64 0,.int .i64 0,.int .i64 0,.int .i64 0,.int .i64 0]):=by kernel_rfl
theorem ty_agg220:Kz Tryz.prog 220=some false:=by kernel_rfl
theorem ty_sz220:Ko Tryz.prog 220=some 1:=by kernel_rfl
theorem ty_z220:Xb Tryz.prog 220=some (.slice none 0 0):=by kernel_rfl
theorem turned_info:(Tryz.prog.info? 225).map (fun i=>(i.zero,i.size,i.bytes))=some (some (.agg #[.int .i64 0,.int .i64 0,.int .i64 0,.int .i64 0,.int .i64 0,.int .i64 0,.int .i64 0,.int .i64 0,.int .i64 0]),9,72):=by kernel_rfl
theorem Xk {n l:Nat} {P:Program} {f:FuncId} {args:Array Value} {w:World} {R R':Ending→World→Prop} (h:Calls P f args w R) (k:∀ e w',R e w'→R' e w') :
 Fence.wide.fn f∧Fence.wide.depth=none∧CallsIn (Fence.wide.inRound l) n P f args w R':=⟨trivial,rfl,CallsIn.inRound l ((callsIn_wide.2 h).mono k)⟩
theorem find_self {es:List En} (hk:(es.map En.key).Nodup):∀ e ∈ es,idE es e.key=e.id:=by
 intro e he
 unfold idE findE
 have hf:es.find? (fun f=>decide ((f.lo,f.hi)=(e.key.1,e.key.2)))=some e:=by
  induction es with
  | nil=>cases he
  | cons f es ih =>
    rw [List.map_cons,List.nodup_cons] at hk
    rw [List.find?_cons]
    by_cases hfe:(f.lo,f.hi)=(e.key.1,e.key.2)
    · rw [decide_eq_true hfe]
      rcases List.mem_cons.1 he with rfl|he
      · rfl
      · exact absurd (List.mem_map.2 ⟨e,he,hfe.symm⟩) hk.1
    · rw [decide_eq_false hfe]
      rcases List.mem_cons.1 he with rfl|he
      · exact absurd rfl hfe
      · exact ih hk.2 he
 rw [hf];rfl
theorem srt_ids {es:List En} {t:List G.Ent} {c:Nat} (hok:MapOk (rows es) c) (hr:TRel es t):(srtE es).map (idE es)=(G.isort (t.map (·.id))).map (fun n:Nat=>(n:Int)):=by
 have hk:(es.map En.key).Nodup:=by
  have:=hok.keys
  unfold rows at this
  rw [List.map_map] at this
  exact this
 have p1:((srtE es).map (idE es)).Perm (es.map (·.id)):=by
  have h1:=(List.mergeSort_perm (es.map En.key) fun x y=>!(ltOf (cfE es)) y x).map (idE es)
  rw [List.map_map] at h1
  refine h1.trans (.of_eq ?_)
  exact List.map_congr_left fun e he=>find_self hk e he
 have p2:es.map (·.id)=(t.map (·.id)).map (fun n:Nat=>(n:Int)):=by
  have:=congrArg (fun l=>l.map fun x:Int × Int × Int=>x.2.2) hr
  simp only [List.map_map] at this
  rw [List.map_map]
  exact this
 have p3:((G.isort (t.map (·.id))).map (fun n:Nat=>(n:Int))).Perm (es.map (·.id)):=by
  rw [p2]
  exact (G.perm_isort _).map _
 refine List.Perm.eq_of_pairwise (le:=fun x y:Int=>x≤y) (fun a b _ _ h1 h2=>by omega) ?_ ?_ (p1.trans p3.symm)
 · rw [List.pairwise_map]
   have hs:(srtE es).Pairwise fun x y=>(!(ltOf (cfE es)) y x)=true:=List.pairwise_mergeSort (fun a b c h1 h2=>by
    simp only [Bool.not_eq_true'] at *
    exact (cf_swo es).ntrans _ _ _ h2 h1) (fun a b=>by
    cases hab:ltOf (cfE es) b a with
    | false=>rfl
    | true =>
      cases hba:ltOf (cfE es) a b with
      | false=>rfl
      | true =>
        have:=(cf_swo es).trans _ _ _ hab hba
        rw [(cf_swo es).irrefl] at this;cases this) _
   refine hs.imp fun {x y} h=>?_
   rw [cf_lt] at h
   simp only [Bool.not_eq_true',decide_eq_false_iff_not] at h
   omega
 · rw [List.pairwise_map]
   exact (G.sorted_isort _).imp fun h=>by omega
theorem ueach_any (w:World) (p:Option Addr) :
  Calls Tryz.prog 156 #[.pointer p] w fun e w'=>e=.returned (.func (.func 166) #[] #[.pointer (some ⟨w.heap.size,0,none⟩)])∧w'=w.alloc (.cells #[.pointer p] 180):=by
 go_enter Tryz.func156,Tryz.ntmps156
 go_wp2
 go_ret
 exact ⟨rfl,rfl⟩
def tdC (t:G.Td):List Value:=[nv t.id,nv t.n.v,nv t.n.lo,nv t.n.hi,nv t.n.refs,nv t.ll,nv t.lh,nv t.hl,nv t.hh]
theorem tdC_len (t:G.Td):(tdC t).length=9:=rfl
def TnD (s:G.St) (y:Nat) (es:List En) (E:World) (I:PH) (ro:List PH) (XO:Nat) (xs:List (Int × Int)) (S:Nat→Prop) (W:World):Prop :=
 ∃ (mm:PH) (v:Value) (ts:List G.Td),ts=(xs.map fun k=>(idE es k).toNat).filterMap (s.tdOf y)∧OwnP mm 225 9 v ts.length (ts.flatMap tdC)∧Sat E I (ro ++ [mm,PH.one XO (.cells #[v] 220)]) W∧∀ p ∈ ro ++ [mm,PH.one XO (.cells #[v] 220)],∀ b,S b→p b=none
theorem TnD.below {s:G.St} {y:Nat} {es:List En} {E:World} {I:PH} {ro:List PH} {XO:Nat} {xs:List (Int × Int)} {S:Nat→Prop} {W W':World} (h:TnD s y es E I ro XO xs S W) (hb:Below W.heap.size W W'):TnD s y es E I ro XO xs S W':=by
 obtain ⟨mm,v,ts,h0,h1,h2,h3⟩:=h
 exact ⟨mm,v,ts,h0,h1,h2.below_ hb,h3⟩
theorem sturn_any {E w:World} {I:PH} {ms:List PH} {S x y:Nat} {s:G.St} {T:List G.Td} (hT:s.turn x y=some T) (hx:x<s.tabs.length) (hlen:(s.tab x).length≤1000000) (hy:y<4611686018427387904) (hR:StR I S s) (hS:Sat E I ms w) :
  Calls Tryz.prog 140 #[vPt S,nv x,nv y] w fun e w'=>∃ v mo,e=.returned v∧OwnP mo 225 9 v T.length (T.flatMap tdC)∧Sat E I (mo::ms) w':=by
 obtain ⟨hT1,hT2⟩:=G.St.turnOf_eq hT
 obtain ⟨h0,L,P,vV,vL,vT,vC,gs,h1,iS1,h3,h4,h5,h6,h7,h8,h9,hP,h11,hgs,h13,h14⟩:=id hR
 obtain ⟨TT,cT,rfl,hgt⟩:=h13 (by omega)
 have hg:=yA (l:=gs) (i:=x) (by omega)
 have htt:=yA (l:=s.tabs) (i:=x) hx
 have htb:s.tabs[x]=s.tab x:=by unfold G.St.tab;rw [yD,htt];rfl
 have iT:=hgt x _ hg
 have hTab:=h14 x _ _ hg htt
 rw [htb] at hTab
 generalize gs[x]=g at *
 obtain ⟨M,es,c,htbin,hok,hrel⟩:=hTab
 have hids:=srt_ids hok hrel
 have hes:es.length≤1000000:=by rw [hrel.len];exact hlen
 have hsl:=srt_len es
 have hxi:(x:Int)<(s.tabs.length:Int):=by omega
 have hx64:s.tabs.length≤64:=h0.tabs
 have hnfit:=hP.1
 have hPR:=hP
 have hlist:(srtE es).map (fun k=>(idE es k).toNat)=G.isort ((s.tab x).map (·.id)):=by
  have h1:=congrArg (fun l=>l.map Int.toNat) hids
  simp only [List.map_map] at h1
  refine Eq.trans ?_ (h1.trans ?_)
  · rfl
  · refine (List.map_congr_left fun a _=>?_).trans (List.map_id _)
    simp
 have hidnat:∀ k ∈ srtE es,∃ id:Nat,idE es k=(id:Int)∧(s.nd id).isSome=true:=fun k hk=>by
  have hm:idE es k ∈ (srtE es).map (idE es):=List.mem_map.2 ⟨k,hk,rfl⟩
  rw [hids] at hm
  obtain ⟨id,h1,h2⟩:=List.mem_map.1 hm
  exact ⟨id,h2.symm,hT2 id h1⟩
 have hT1':T=((srtE es).map fun k=>(idE es k).toNat).filterMap (s.tdOf y):=by rw [hlist];exact hT1
 have Hidnat:=yH hidnat
 have HT1:=yH hT1'
 have HTb:=yH htbin
 have HPR:=yH hPR
 have HR:=yH hR
 have Hok:=yH hok
 have Hfit:=yH hnfit
 clear h0 h1 h4 h5 h6 h7 h8 h9 hP h11 hgs h13 h14 hgt hg htt htb hids hlist hidnat hT1' hT1 hT2 htbin hPR hR hok hrel hlen hnfit hT
 refine (callsIn_wide (n:=0)).1 ?_
 refine callsIn_of_wp_marks (n:=0) Tryz.func140 rfl trivial ?_ rfl
 simp only [Tryz.ntmps140,List.size_toArray,yB,yC,Nat.reduceAdd,Nat.reduceSub,Array.replicate_succ,Array.replicate_zero,List.push_toArray,List.append_toArray,List.nil_append,List.cons_append]
 refine wpIn_wide.2 ?_
 go_wp2_with (first|(go_at_call 156;((with_reducible refine yI (ueach_any _ _) ?_);rintro e w1 ⟨rfl,rfl⟩;have hS2:=hS.alloc (.cells #[vPt g] 180);clear hS;have hS:=hS2;clear hS2;generalize (World.heap w).size=Y at *;generalize World.alloc w _=w1 at *))|((with_reducible refine Qc ?_);first|((with_reducible refine Za 3 ?_);refine bx hS rfl rfl rfl ?_;clear hS;intro X3 w hS;(try simp only [Act.eval,zD,zC,zB,zJ,Value.cells] at hS);(try simp only [Act.put,zE,zF,zG]))|((with_reducible refine Za 5 ?_);refine bx hS rfl rfl rfl ?_;clear hS;intro X5 w hS;(try simp only [Act.eval,zD,zC,zA,zB,zJ,Value.cells] at hS);(try simp only [Act.put,zE,zF,zG]))|((with_reducible refine Ql 7 ?_);(refine' al (z:=_) hS rfl rfl ?ha ?_);(case ha=>exact ty_z220);clear hS;intro XO w hS;(try simp only [Value.cells] at hS);(try simp only [Act.put,zE,zF,zG]))|((with_reducible refine Qb ?_);(first|(refine ld1 2 hS rfl rfl ?ha rfl rfl rfl ?_;(case ha =>  exact Qr ))|((refine' Ka (v:=_) hS rfl rfl ?ha rfl ?hb ?_);(case ha=>first|exact Zi|exact Kx);(case hb=>assumption)));(try simp only [Act.put,zE,zF,zG])) ))
 have hSp:Sat E I (PH.one Y (.cells #[vPt g] 180)::PH.one X5 (.cells #[nv y] 3)::PH.one X3 (.cells #[vPt S] 113)::PH.one XO (.cells #[.slice none 0 0] 220)::ms) w1 :=
  hS.perm (List.Perm.cons _ ((List.Perm.swap _ _ _).trans (List.Perm.cons _ (List.Perm.swap _ _ _))))
 clear hS
 obtain ⟨J1,l1,lY,hS1,bY⟩:=hSp.ice
 obtain ⟨J2,l2,lX5,hS2,bX5⟩:=hS1.ice
 obtain ⟨J3,l3,lX3,hS3,bX3⟩:=hS2.ice
 have hle:I.le J3:=(l1.trans l2).trans l3
 have hIY:J3.at Y 0=some (vPt g):=PH.at_le ((lY.trans l2).trans l3) (Qk rfl)
 have hI5:J3.at X5 0=some (nv y):=PH.at_le (lX5.trans l3) (Qk rfl)
 have hI3:J3.at X3 0=some (vPt S):=PH.at_le lX3 (Qk rfl)
 have hTJ:=HTb.out.le hle
 have hiS1:J3.at S 1=some (vPt P):=PH.at_le hle iS1
 have Hle:=yH hle
 have hback:∀ ns w',Sat E J3 ns w'→Sat E I ns w':=fun ns w' h=>(((bY _ _ (bX5 _ _ (bX3 _ _ h))).drop).drop).drop
 have Hback:=yH hback
 have hSt:Sat E J3 (ms ++ [fun _=>none,PH.one XO (.cells #[.slice none 0 0] 220)]) w1:=hS3.empty.perm (List.perm_append_comm (l₁:=[_,_]))
 have hKI:∀ b,(b=Y∨b=g∨b=M)→J3 b≠none:=by
  rintro b (rfl|rfl|rfl)
  · obtain ⟨o,ho,_⟩:=PH.at_obj hIY;rw [ho];simp
  · obtain ⟨o,ho,_⟩:=PH.at_obj hTJ.v;rw [ho];simp
  · rw [hTJ.m];simp
 have hit:=each1_iterA w1 Y g M es c Hok.out hes (PH.at_le hSt.ile hIY) (PH.at_le hSt.ile hTJ.v) (hSt.ile _ _ hTJ.m)
 have hIlt:∀ b o,J3 b=some o→b<w1.heap.size:=fun b o hb=>hSt.ilt hb
 have hrolt:∀ p ∈ ms,∀ b o,p b=some o→b<w1.heap.size:=fun p hp b o hb=>hSt.lt (List.mem_append_left _ hp) hb
 have hKlt:∀ b,(b=Y∨b=g∨b=M)→b<w1.heap.size:=fun b hb=>by
  cases h:J3 b with
  | none=>exact absurd h (hKI b hb)
  | some o=>exact hIlt b o h
 clear hSp hS1 hS2 hS3 bY bX5 bX3 l1 l2 l3 lY lX5 lX3 hle hback hTJ iT h3 iS1
 generalize hsrt:srtE es=srt at *
 refine (wpIn_wide (n:=0)).1 ?_
 refine rangeFunc_law (K:=fun b=>b=Y∨b=g∨b=M) (gf:=166) (lb := #[.pointer (some ⟨Y,0,none⟩)]) (w0:=w1) rfl (enters_of Tryz.func166 (by kernel_rfl) rfl)
  hit (Keeps.refl _ _) hKlt ?hps
  (fun S pre W'=>TnD s y es E J3 ms XO pre S W') (fun S cd _ W'=>False) ?hI ?hIx ?start
  (fun k a' W'=>a'=⟨#[vPt S,nv x,nv y,Value.pointer (some { block:=X3,off:=0 }),undef,Value.pointer (some { block:=X5,off:=0 }),Value.slice none 0 0,Value.pointer (some { block:=XO,off:=0 }),undef,.int .i64 (idE es k),undef,undef,undef,vPt S,vPt S,Value.pointer (some { block:=S,off:=2 }),Value.slice (some ⟨TT,0,none⟩) s.tabs.length cT,nv x,Value.pointer (some { block:=TT,off:=x }),vPt g,Value.func (Fn.func 166) #[] #[Value.pointer (some { block:=Y,off:=0 })],ekey k,.int .i64 (idE es k),undef,undef,undef,undef,undef,undef,undef,undef,undef,undef,undef,undef,undef,undef,undef,undef,undef,undef,undef,undef,undef,undef,undef,undef,undef,undef,undef,undef,undef,undef,undef,undef,undef,undef,undef,undef,undef,undef,undef,undef,undef,undef,undef,undef,undef,undef,undef,undef],[]⟩) ?hAx ?assign ?body ?done ?stop
 case hps=>exact fun _=>rfl
 case hI =>
  rintro S pre A B row ⟨mm,v,ts,h0,h1,h2,h3⟩ hg hr
  refine ⟨mm,v,ts,h0,h1,h2.turn hg hr (fun b o hb=>.inl (hIlt b o hb)) (fun p hp b o hb=>?_),h3⟩
  rcases List.mem_append.1 hp with hp|hp
  · exact .inl (hrolt p hp b o hb)
  · simp only [List.mem_cons,List.not_mem_nil,or_false] at hp
    rcases hp with rfl|rfl
    · exact .inr (h1.isCells b o hb)
    · exact .inr (PH.one_isCells b o hb)
 case hIx=>exact fun S c s A B row h=>h.elim
 case start =>
  intro S W' hb hst
  refine ⟨fun _=>none,.slice none 0 0,[],rfl,OwnP.nil _ _,hSt.below_ hb,fun p hp b hSb=>?_⟩
  cases hpb:p b with
  | none=>rfl
  | some o =>
    exfalso
    rcases hst.2 b hSb with h|h
    · rcases hSt.sep p hp b with h4|h4
      · rw [hpb] at h4;cases h4
      · exact hKI b h h4
    · have:=hSt.lt hp hpb;omega
 case hAx=>exact fun k a' s X Y' row h _ _=>h
 case assign =>
  intro l' S pre k suf W' K' hxs hSl hKS hi hK
  have HK:=fun a'=>hK a' W' (Keeps.refl _ _) hi
  clear hK
  unfold encY
  gi_wp2
  exact rfl
 case body =>
  rintro l' S9 pre k suf a' W' hxs hSl hKS ⟨mm,v,ts,hts,hO,hSr,hap⟩ rfl
  obtain ⟨I1,hI1,hS9,hfull⟩:=hSr.full
  have hkm:k ∈ srt:=by rw [hxs];simp
  obtain ⟨id,hid,hnd⟩:=Hidnat.out k hkm
  cases hn:s.nd id with
  | none=>rw [hn] at hnd;cases hnd
  | some n =>
  have hnf:=Hfit.out.nd id n (G.Pl.nd_some.1 hn).2
  have hpre:pre.length<1000000:=by have:=congrArg List.length hxs;rw [yG,yB] at this;omega
  have hgp:ts.length≤pre.length:=by rw [hts];exact Nat.le_trans (List.length_filterMap_le _ _) (by simp)
  have hsn:((pre ++ [k]).map fun k=>(idE es k).toNat).filterMap (s.tdOf y)=ts ++ (s.tdOf y id).toList:=by
   rw [List.map_append,List.filterMap_append,← hts]
   simp only [List.map_cons,List.map_nil,hid,Int.toNat_natCast]
   rw [List.filterMap_cons,List.filterMap_nil]
   cases s.tdOf y id <;> rfl
  rw [hid]
  obtain ⟨A0,c0',rfl,hc0⟩:=hO.shape
  have hRJ:=(HR.out.le Hle.out).le hI1
  have hPJ:=(HPR.out.le Hle.out).le hI1
  have q1:I1.at S 1=some (vPt P):=PH.at_le hI1 hiS1
  have q2:I1.at X3 0=some (vPt S):=PH.at_le hI1 hI3
  have q3:I1.at X5 0=some (nv y):=PH.at_le hI1 hI5
  have hpat:=fun (w':World) (hle:I1.le (Qa w'))=>pat_nat (hPJ.le hle) id
  rw [show s.pl.nd id=some n from hn] at hpat
  have HPat:=yH (show ∀ (w':World),I1.le (Qa w')→Calls Tryz.prog 128 #[vPt P,nv id] w' fun e w''=>e=.returned (.tuple #[.agg #[nv id,nv n.v,nv n.lo,nv n.hi,nv n.refs],.bool true])∧Below w'.heap.size w' w'' from hpat)
  have HSl:=yH (fun (w':World) (hle:I1.le (Qa w'))=>ssplit_any (hRJ.le hle) n.lo y (by have:=hnf.2.1;omega))
  have HSh:=yH (fun (w':World) (hle:I1.le (Qa w'))=>ssplit_any (hRJ.le hle) n.hi y (by have:=hnf.2.2.1;omega))
  have htd:s.tdOf y id=if (s.split n.lo y).1≠(s.split n.lo y).2∨(s.split n.hi y).1≠(s.split n.hi y).2 then some ⟨id,n,(s.split n.lo y).1,(s.split n.lo y).2,(s.split n.hi y).1,(s.split n.hi y).2⟩ else none:=by unfold G.St.tdOf;rw [hn]
  generalize hpl1:s.split n.lo y=p1 at *
  generalize hpl2:s.split n.hi y=p2 at *
  obtain ⟨ll,lh⟩:=p1
  obtain ⟨hl,hh⟩:=p2
  simp only [] at HSl HSh htd
  have Hsn:=yH hsn
  have Htd:=yH htd
  have Hfull:=yH hfull
  have Hap:=yH hap
  have HSr:=yH hSr
  have HI1:=yH hI1
  have HO:=yH hO
  have hS:=hS9.perm (List.perm_append_comm (l₁:=ms))
  simp only [List.cons_append,List.nil_append] at hS
  clear hxs hfull hap hSr hO hsn htd hI1 hS9 hkm hid hnd hn hnf hts hc0 hRJ hPJ hpat hit hpl1 hpl2 hSt hiS1 hI3 hI5 hIY
  have hgl0:ts.length≤1000000:=by omega
  have p0:(0:Int)≤(ts.length:Int):=by omega
  have p1:(ts.length:Int)≤1000000:=by omega
  by_cases e1:ll=lh
  · by_cases e2:hl=hh
    · have hnone:¬ (ll≠lh∨hl≠hh):=by omega
      have Hnone:=yH hnone
      clear hnone
      subst e1 e2
      gi_wp2_with (first|((with_reducible refine Xk (HPat.out _ hS.ile) ?_);rintro e w2 ⟨rfl,hb⟩;replace hS:=hS.below_ hb;clear hb)|((with_reducible refine Xk (HSl.out _ hS.ile) ?_);rintro e w2 ⟨rfl,hb⟩;replace hS:=hS.below_ hb;clear hb)|((with_reducible refine Xk (HSh.out _ hS.ile) ?_);rintro e w2 ⟨rfl,hb⟩;replace hS:=hS.below_ hb;clear hb)|((with_reducible refine risStore ?_);(refine wp_st1 hS 0 rfl rfl rfl rfl ty_sz102 rfl rfl ?hb ?_);(case hb=>(simp;done));clear hS;intro w hS;(try simp only [zF,zG,zE,Act.eval,zD,zC,zA,zB,zJ] at hS);(try simp only [Act.put]);have c7:w.cell? ⟨XT,7,none⟩=some _:=(hS.cell_of (List.Mem.head _) 7).trans rfl;have c8:w.cell? ⟨XT,8,none⟩=some _:=(hS.cell_of (List.Mem.head _) 8).trans rfl)|((with_reducible refine ratList ?_);first|((with_reducible refine risAllocD 10 ?_);(refine' wp_al (z:=_) hS rfl ?ha ?_);(case ha =>  exact Zp );clear hS;intro XN w hS;(try simp only [Value.cells] at hS);(try simp only [Act.put,zE,zF,zG]))|((with_reducible refine risAllocD 12 ?_);(refine' wp_al (z:=_) hS rfl ?ha ?_);(case ha =>  exact ty_z225 );clear hS;intro XT w hS;(try simp only [Value.cells] at hS);(try simp only [Act.put,zE,zF,zG]))|((with_reducible refine risLoad ?_);(first|(refine wp_k1 0 hS rfl ?ha rfl rfl rfl ?_;(case ha =>  exact Ki ))|(refine wp_k1 1 hS rfl ?ha rfl rfl rfl ?_;(case ha =>  exact Qf ))|(refine wp_kN 0 hS rfl ?ha rfl rfl ?hb ?_;(case ha =>  exact Zg );(case hb =>  exact Qt ))|((refine' wp_i1 (v:=_) hS rfl ?ha rfl ?hb ?_);(case ha=>first|exact Kg|exact Qr|exact Qf );(case hb=>assumption)) );(try simp only [Act.put,zE,zF,zG]))|((with_reducible refine risStore ?_);( (refine wp_stN hS 0 rfl rfl rfl rfl ?ha rfl ?hb ?_;(case ha=>first|exact Qt|exact Xz);(case hb=>(simp [Act.eval,Value.cells,Value.oneCell'];done))) );clear hS;intro w hS;(try simp only [zG,Act.eval,zD,zC,zA,zB,zJ,Value.cells] at hS);(try simp only [Act.put])) ))
      have hS2:=hS.drop.drop.perm (List.perm_append_comm (l₁:=[mm,PH.one XO (.cells #[.slice A0 ts.length c0'] 220)]) (l₂:=ms))
      obtain ⟨hk,hap'⟩:=Sat.keeps Hfull.out hSl Hap.out (PH.le.refl _) hS2
      refine ⟨hk,mm,.slice A0 ts.length c0',ts,?_,HO.out,(HSr.out.unbase hS2).less HI1.out,hap'⟩
      rw [Hsn.out,Htd.out,if_neg Hnone.out]
      exact (List.append_nil _).symm
    · subst e1
      have e2i:¬ (hl:Int)=(hh:Int):=by omega
      have e2b:((hl:Int) == (hh:Int))=false:=by simpa using e2i
      have hsome:ll≠ll∨hl≠hh:=.inr e2
      have Hsome:=yH hsome
      clear hsome
      have hO:=HO.out
      gi_wp2_with (first|((with_reducible refine Xk (HPat.out _ hS.ile) ?_);rintro e w2 ⟨rfl,hb⟩;replace hS:=hS.below_ hb;clear hb)|((with_reducible refine Xk (HSl.out _ hS.ile) ?_);rintro e w2 ⟨rfl,hb⟩;replace hS:=hS.below_ hb;clear hb)|((with_reducible refine Xk (HSh.out _ hS.ile) ?_);rintro e w2 ⟨rfl,hb⟩;replace hS:=hS.below_ hb;clear hb)|((with_reducible refine risStore ?_);(refine wp_st1 hS 0 rfl rfl rfl rfl ty_sz102 rfl rfl ?hb ?_);(case hb=>(simp;done));clear hS;intro w hS;(try simp only [zF,zG,zE,Act.eval,zD,zC,zA,zB,zJ] at hS);(try simp only [Act.put]);have c7:w.cell? ⟨XT,7,none⟩=some _:=(hS.cell_of (List.Mem.head _) 7).trans rfl;have c8:w.cell? ⟨XT,8,none⟩=some _:=(hS.cell_of (List.Mem.head _) 8).trans rfl)|((with_reducible refine risAppend ?_);(refine' wp_apP (p:=_) (m:=_) (v:=_) (n:=_) (xs:=_) (news:=_) hS 3 rfl (.inr (List.Mem.head _)) rfl Tryz.underlying220 turned_info rfl (by decide) rfl ?hown rfl ?hl ?hcl ?h1 ?h63 ?hby ?_);(case hown=>assumption);(case hcl=>exact Cells.one _ _ _ _);(case hl=>rfl);(case h1=>rfl);(case h63=>go_light;unfold maxLen;omega);(case hby=>go_light;omega);clear hS hO;intro v1 m1 w hO hS;refine Veil.out ?_;obtain ⟨A1,c1,rfl,_⟩:=OwnP.shape hO;refine ⟨?_⟩;(try simp only [zF,zG] at hS);(try simp only [Act.put,zE,zF,zG]))|((with_reducible refine ratList ?_);first|((with_reducible refine risAllocD 10 ?_);(refine' wp_al (z:=_) hS rfl ?ha ?_);(case ha =>  exact Zp );clear hS;intro XN w hS;(try simp only [Value.cells] at hS);(try simp only [Act.put,zE,zF,zG]))|((with_reducible refine risAllocD 12 ?_);(refine' wp_al (z:=_) hS rfl ?ha ?_);(case ha =>  exact ty_z225 );clear hS;intro XT w hS;(try simp only [Value.cells] at hS);(try simp only [Act.put,zE,zF,zG]))|((with_reducible refine risLoad ?_);(first|(refine wp_k1 0 hS rfl ?ha rfl rfl rfl ?_;(case ha =>  exact Ki ))|(refine wp_k1 1 hS rfl ?ha rfl rfl rfl ?_;(case ha =>  exact Qf ))|(refine wp_k1 3 hS rfl ?ha rfl rfl rfl ?_;(case ha =>  exact ty_agg220))|(refine wp_kN 0 hS rfl ?ha rfl rfl ?hb ?_;(case ha=>first|exact Zg|exact ty_agg225);(case hb=>first|exact Qt|exact Xz))|((refine' wp_i1 (v:=_) hS rfl ?ha rfl ?hb ?_);(case ha=>first|exact Kg|exact Qr|exact Qf );(case hb=>assumption)) );(try simp only [Act.put,zE,zF,zG]))|((with_reducible refine risStore ?_);(first|(refine wp_st1 hS 4 rfl rfl rfl rfl ?ha rfl rfl ?hb ?_;(case ha =>  exact ty_sz220);(case hb=>(simp;done)))|(refine wp_stN hS 0 rfl rfl rfl rfl ?ha rfl ?hb ?_;(case ha=>first|exact Qt|exact Xz);(case hb=>(simp [Act.eval,Value.cells,Value.oneCell'];done))) );clear hS;intro w hS;(try simp only [zF,zG,zE,Act.eval,zD,zC,zA,zB,zJ,Value.cells] at hS);(try simp only [Act.put]))|((with_reducible refine risBuildSlice ?_);(refine' wp_bsl hS ?hr ?_);(case hr=>(intro w0;go_simp;rfl));clear hS;intro XS w hS;(try simp only [Act.eval,zD,zC,zA,zB,zJ,Value.cells] at hS);(try simp only [Act.put,zE,zF,zG]))))
      have hS2:=hS.drop.drop.drop.perm (List.perm_append_comm (l₁:=[m1,PH.one XO (.cells #[.slice A1 (ts.length+1) c1] 220)]) (l₂:=ms))
      obtain ⟨hk,hap'⟩:=Sat.keeps Hfull.out hSl Hap.out (PH.le.refl _) hS2
      refine ⟨hk,m1,.slice A1 (ts.length+1) c1,ts ++ [⟨id,n,ll,ll,hl,hh⟩],?_,?_,(HSr.out.unbase hS2).less HI1.out,hap'⟩
      · rw [Hsn.out,Htd.out,if_pos Hsome.out];rfl
      · have hO2:OwnP m1 225 9 (.slice A1 (ts.length+1) c1) (ts.length+1) (ts.flatMap tdC ++ tdC ⟨id,n,ll,ll,hl,hh⟩):=hO
        simpa using hO2
  · have e1i:¬ (ll:Int)=(lh:Int):=by omega
    have e1b:((ll:Int) == (lh:Int))=false:=by simpa using e1i
    have hsome:ll≠lh∨hl≠hh:=.inl e1
    have Hsome:=yH hsome
    clear hsome
    have hO:=HO.out
    gi_wp2_with (first|((with_reducible refine Xk (HPat.out _ hS.ile) ?_);rintro e w2 ⟨rfl,hb⟩;replace hS:=hS.below_ hb;clear hb)|((with_reducible refine Xk (HSl.out _ hS.ile) ?_);rintro e w2 ⟨rfl,hb⟩;replace hS:=hS.below_ hb;clear hb)|((with_reducible refine Xk (HSh.out _ hS.ile) ?_);rintro e w2 ⟨rfl,hb⟩;replace hS:=hS.below_ hb;clear hb)|((with_reducible refine risStore ?_);(refine wp_st1 hS 0 rfl rfl rfl rfl ty_sz102 rfl rfl ?hb ?_);(case hb=>(simp;done));clear hS;intro w hS;(try simp only [zF,zG,zE,Act.eval,zD,zC,zA,zB,zJ] at hS);(try simp only [Act.put]);have c7:w.cell? ⟨XT,7,none⟩=some _:=(hS.cell_of (List.Mem.head _) 7).trans rfl;have c8:w.cell? ⟨XT,8,none⟩=some _:=(hS.cell_of (List.Mem.head _) 8).trans rfl)|((with_reducible refine risAppend ?_);(refine' wp_apP (p:=_) (m:=_) (v:=_) (n:=_) (xs:=_) (news:=_) hS 3 rfl (.inr (List.Mem.head _)) rfl Tryz.underlying220 turned_info rfl (by decide) rfl ?hown rfl ?hl ?hcl ?h1 ?h63 ?hby ?_);(case hown=>assumption);(case hcl=>exact Cells.one _ _ _ _);(case hl=>rfl);(case h1=>rfl);(case h63=>go_light;unfold maxLen;omega);(case hby=>go_light;omega);clear hS hO;intro v1 m1 w hO hS;refine Veil.out ?_;obtain ⟨A1,c1,rfl,_⟩:=OwnP.shape hO;refine ⟨?_⟩;(try simp only [zF,zG] at hS);(try simp only [Act.put,zE,zF,zG]))|((with_reducible refine ratList ?_);first|((with_reducible refine risAllocD 10 ?_);(refine' wp_al (z:=_) hS rfl ?ha ?_);(case ha =>  exact Zp );clear hS;intro XN w hS;(try simp only [Value.cells] at hS);(try simp only [Act.put,zE,zF,zG]))|((with_reducible refine risAllocD 12 ?_);(refine' wp_al (z:=_) hS rfl ?ha ?_);(case ha =>  exact ty_z225 );clear hS;intro XT w hS;(try simp only [Value.cells] at hS);(try simp only [Act.put,zE,zF,zG]))|((with_reducible refine risLoad ?_);(first|(refine wp_k1 0 hS rfl ?ha rfl rfl rfl ?_;(case ha =>  exact Ki ))|(refine wp_k1 1 hS rfl ?ha rfl rfl rfl ?_;(case ha =>  exact Qf ))|(refine wp_k1 3 hS rfl ?ha rfl rfl rfl ?_;(case ha =>  exact ty_agg220))|(refine wp_kN 0 hS rfl ?ha rfl rfl ?hb ?_;(case ha=>first|exact Zg|exact ty_agg225);(case hb=>first|exact Qt|exact Xz))|((refine' wp_i1 (v:=_) hS rfl ?ha rfl ?hb ?_);(case ha=>first|exact Kg|exact Qr|exact Qf );(case hb=>assumption)) );(try simp only [Act.put,zE,zF,zG]))|((with_reducible refine risStore ?_);(first|(refine wp_st1 hS 4 rfl rfl rfl rfl ?ha rfl rfl ?hb ?_;(case ha =>  exact ty_sz220);(case hb=>(simp;done)))|(refine wp_stN hS 0 rfl rfl rfl rfl ?ha rfl ?hb ?_;(case ha=>first|exact Qt|exact Xz);(case hb=>(simp [Act.eval,Value.cells,Value.oneCell'];done))) );clear hS;intro w hS;(try simp only [zF,zG,zE,Act.eval,zD,zC,zA,zB,zJ,Value.cells] at hS);(try simp only [Act.put]))|((with_reducible refine risBuildSlice ?_);(refine' wp_bsl hS ?hr ?_);(case hr=>(intro w0;go_simp;rfl));clear hS;intro XS w hS;(try simp only [Act.eval,zD,zC,zA,zB,zJ,Value.cells] at hS);(try simp only [Act.put,zE,zF,zG]))))
    have hS2:=hS.drop.drop.drop.perm (List.perm_append_comm (l₁:=[m1,PH.one XO (.cells #[.slice A1 (ts.length+1) c1] 220)]) (l₂:=ms))
    obtain ⟨hk,hap'⟩:=Sat.keeps Hfull.out hSl Hap.out (PH.le.refl _) hS2
    refine ⟨hk,m1,.slice A1 (ts.length+1) c1,ts ++ [⟨id,n,ll,lh,hl,hh⟩],?_,?_,(HSr.out.unbase hS2).less HI1.out,hap'⟩
    · rw [Hsn.out,Htd.out,if_pos Hsome.out];rfl
    · have hO2:OwnP m1 225 9 (.slice A1 (ts.length+1) c1) (ts.length+1) (ts.flatMap tdC ++ tdC ⟨id,n,ll,lh,hl,hh⟩):=hO
      simpa using hO2
 case stop=>exact fun D S c pre W h1 h2 h3 h4=>h4.elim
 case done =>
  rintro D S9 W3 hD hSS ⟨mm,v,ts,hts,hO,hSr,hap⟩ hd
  have hTe:T=ts:=by rw [HT1.out,hts]
  have hS:=hSr.perm (List.perm_append_comm (l₁:=ms))
  simp only [List.cons_append,List.nil_append] at hS
  obtain ⟨A0,c0,rfl,_⟩:=hO.shape
  have HO:=yH hO
  have HSr:=yH hSr
  have HTe:=yH hTe
  clear hO hSr hap hTe hts
  go_wp2_with (first|((with_reducible refine Qc ?_);  ((with_reducible refine Qb ?_);( (refine ld1 1 hS rfl rfl ?ha rfl rfl rfl ?_;(case ha=>exact ty_agg220)) );(try simp only [Act.put,zE,zF,zG])) ))
  have hT:Sat E J3 (ms ++ [mm,PH.one XO (.cells #[.slice A0 ts.length c0] 220)]) (W3.putObj D (.deferred none)):=by
   refine HSr.out.turn (B:=w1.heap.size) (grownBy_putObj' W3 D _) (fun r e=>by cases e;exact ⟨hD,_,hd,rfl⟩) (fun b o hb=>.inl (hIlt b o hb)) (fun p hp b o hb=>?_)
   rcases List.mem_append.1 hp with hp|hp
   · exact .inl (hrolt p hp b o hb)
   · simp only [List.mem_cons,List.not_mem_nil,or_false] at hp
     rcases hp with rfl|rfl
     · exact .inr (HO.out.isCells b o hb)
     · exact .inr (PH.one_isCells b o hb)
  have hF:=(hT.perm (List.perm_append_comm (l₁:=ms)))
  have hG:=Hback.out _ _ (hF.sub (List.Sublist.cons_cons mm (List.Sublist.cons _ (List.Sublist.refl ms))))
  clear hF hT hS
  refine ⟨by simp,.inl ⟨_,_,rfl,run_takeDeferred hd,?_⟩⟩
  refine ⟨_,(results_tmp Tryz.results140 _ _ _),_,mm,rfl,?_,hG⟩
  rw [HTe.out]
  exact HO.out
end
end Go.Proofs.YtidamcdklgfogaaGreat
