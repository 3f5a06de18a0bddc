import Derived.Test.YtdhkkkhnjooioaaGreatZbv
import Derived.Test.YtdhkkkhnjooioaaGreatZbx
set_option linter.unusedSimpArgs false
set_option linter.unusedVariables false
namespace Go.Proofs.YtdhkkkhnjooioaaGreat.G
theorem const_get (n:Nat) (c:Bool) (φ:Fn) (h:∀ ρ,φ ρ=c):tabOf n φ=List.replicate (2 ^ n) c:=by
 unfold tabOf
 rw [List.eq_replicate_iff]
 refine ⟨by simp,fun x hx=>?_⟩
 obtain ⟨i,_,rfl⟩:=List.mem_map.1 hx
 exact h _
theorem ps_start (n b:Nat) (hn:n≤4) (h1:1≤b) (h2:b≤1048576):PS n b 0 (St.new n b) [] [] [(0,List.replicate (2 ^ n) true),(1,List.replicate (2 ^ n) false)]:=by
 have ok:StOk 0 (St.new n b):=StOk.new (by omega) h1 h2
 have hlen:(St.new n b).vars.length=n:=by simp [St.new]
 have hnd:∀ j,(St.new n b).nd j=none:=fun j=>nd_new n b j
 have den0:∀ ρ,den (St.new n b).nd 0 ρ=true:=fun ρ=>by unfold den;rw [ev_none (hnd _)];rfl
 have den1:∀ ρ,den (St.new n b).nd 1 ρ=false:=fun ρ=>by unfold den;rw [ev_none (hnd _)];rfl
 have t0:(St.new n b).tb 0=List.replicate (2 ^ n) true:=by unfold St.tb;rw [hlen];exact const_get n true _ den0
 have t1:(St.new n b).tb 1=List.replicate (2 ^ n) false:=by unfold St.tb;rw [hlen];exact const_get n false _ den1
 refine ⟨ok,⟨List.nodup_nil,rfl,fun z=>⟨fun h=>(by cases h),fun ⟨j,m,hj,_⟩=>by rw [hnd] at hj;cases hj⟩,fun j m hj=>by rw [hnd] at hj;cases hj⟩,fun k hk=>?_,⟨[],Nat.le_refl _,fun z hz=>by exact absurd hz (by simp [heldT])⟩,Nat.zero_le _,hlen,rfl,?_⟩
 · rcases List.mem_cons.1 hk with rfl|hk
   · exact ⟨show val (St.new n b).nd 0 from .inl rfl,t0⟩
   · rw [List.mem_singleton.1 hk]
     exact ⟨show val (St.new n b).nd 1 from .inl rfl,t1⟩
 · refine ⟨(1,List.replicate (2 ^ n) false),.tail _ (.head _),fun v=>?_⟩
   show hangsT (List.replicate (2 ^ n) false) v=false
   have hg:∀ j,(List.replicate (2 ^ n) false).getD j false=false:=fun j=>by
    rw [List.getD_eq_getElem?_getD,List.getElem?_replicate]
    split <;> rfl
   have hcof:∀ c,cofT (List.replicate (2 ^ n) false) v c=(List.range (List.replicate (2 ^ n) false).length).map fun _=>false:=fun c=>by
    unfold cofT
    exact List.map_congr_left fun i _=>hg _
   unfold hangsT
   rw [hcof,hcof]
   simp
end Go.Proofs.YtdhkkkhnjooioaaGreat.G
namespace Go.Proofs.YtdhkkkhnjooioaaGreat
open Go.RowKit
theorem right_any {n b i S:Nat} {s:G.St} {l:List G.Tb} {h:List Nat} {ks:List (Nat × G.Tb)} (hn:n≤4) (hi:i<46) (p:G.PS n b i s l h ks) (hkl:ks.length≤100) {E w:World} {I m mk:PH} {ms:List PH} {ov lv hv kv:Value} (hA:StAt S s m) (hl:RowsR I lv l) (hh:NumR I hv h) (hoo:NumR I ov s.vars) (hk:KnAt I mk kv ks) (hS:Sat E I (m::mk::ms) w) :
 Calls Tryz.prog 9 #[vPt S,.agg #[nv n,nv b,ov,lv,hv],kv] w fun e w'=>e=.returned (.bool true)∧Sat E I (m::mk::ms) w':=by
 have hlb:l.length≤1500:=by have:=p.few;omega
 obtain ⟨J1,a1,e1,hS1,b1⟩:=hS.ice
 obtain ⟨J2,a2,e2,hS2,b2⟩:=hS1.ice
 have a3:=PH.le.trans a1 a2
 have hR:StR J2 S s:=hA.read.le (PH.le.trans e1 a2)
 have hr:=right_fz (b:=b) hR p.ok p.rel (hl.le a3) (hh.le a3) (hoo.le a3) p.room (by rw [p.len];exact hn) hlb ((hk.le a3).rd e2) p.kn hkl (fun w' ms' J hJ h9=>listed_fz (hR.le hJ) p.ok p.rel ((hl.le a3).le hJ) ((hh.le a3).le hJ) ((hoo.le a3).le hJ) p.room (by rw [p.len];exact hn) hlb h9) hS2
 rw [p.len] at hr
 refine hr.mono ?_
 rintro e w' ⟨rfl,h9⟩
 exact ⟨rfl,b1 _ _ (b2 _ _ h9)⟩
end Go.Proofs.YtdhkkkhnjooioaaGreat
namespace Go.Proofs.YtdhkkkhnjooioaaGreat
open Go.RowKit
structure Bt where
 k:Nat
 a:Nat
 b:Nat
 v:Int
def Bt.cells (x:Bt):List Value:=[.int .u8 (x.k:Int),.int .u8 (x.a:Int),.int .u8 (x.b:Int),.int .i64 x.v]
def RowB (J:PH) (A:Option Addr) (xs:List Bt):Prop:=0<xs.length→∃ X off,A=some ⟨X,off,none⟩∧Cells J X off (xs.flatMap Bt.cells)
theorem flatB:∀ (xs:List Bt) (k:Nat) (n:Bt),xs[k]?=some n→∀ j v,n.cells[j]?=some v→(xs.flatMap Bt.cells)[k * 4+j]?=some v
 | [],_,_,h,_,_,_=>by simp at h
 | x::xs,0,n,h,j,v,hj=>by
   simp at h;subst h
   rw [List.flatMap_cons,Nat.zero_mul,Nat.zero_add,List.getElem?_append_left (List.getElem?_eq_some_iff.1 hj).1]
   exact hj
 | x::xs,k+1,n,h,j,v,hj=>by
   have h4:x.cells.length=4:=rfl
   rw [List.flatMap_cons,List.getElem?_append_right (by rw [h4];omega),h4,show (k+1) * 4+j - 4=k * 4+j by omega]
   exact flatB xs k n (by simpa using h) j v hj
theorem RowB.at_ {J:PH} {A:Option Addr} {xs:List Bt} (h:RowB J A xs) {k:Nat} (hk:k<xs.length):∃ X off,A=some ⟨X,off,none⟩∧Cells J X (off+k * 4) xs[k].cells:=by
 obtain ⟨X,off,rfl,hc⟩:=h (by omega)
 refine ⟨X,off,rfl,fun j v hj=>?_⟩
 rw [Nat.add_assoc]
 exact hc _ _ (flatB xs k _ (List.getElem?_eq_getElem hk) j v hj)
def RwR (os:List Nat) (l:List G.Tb) (h:List Nat) (J:PH) (ov lv hv:Value):Prop:=RowsR J lv l∧NumR J hv h∧NumR J ov os
theorem RwR.sl {os:List Nat} {l:List G.Tb} {h:List Nat} {J:PH} {ov lv hv:Value} (r:RwR os l h J ov lv hv):∃ oA oC A c B d,ov=.slice oA os.length oC∧lv=.slice A l.length c∧hv=.slice B h.length d:=by
 obtain ⟨h1,h2,h3⟩:=r
 obtain ⟨⟨A,c,rfl⟩,_⟩:=h1.get
 obtain ⟨⟨B,d,rfl⟩,_⟩:=h2
 obtain ⟨⟨oA,oC,rfl⟩,_⟩:=h3
 exact ⟨oA,oC,A,c,B,d,rfl,rfl,rfl⟩
def IsR (n b:Nat) (os:List Nat) (l:List G.Tb) (h:List Nat) (J:PH) (v:Value):Prop:=∃ ov lv hv,v=.agg #[nv n,nv b,ov,lv,hv]∧RwR os l h J ov lv hv
theorem IsR.le {n b:Nat} {os:List Nat} {l:List G.Tb} {h:List Nat} {J K:PH} {v:Value} (r:IsR n b os l h J v) (hJ:J.le K):IsR n b os l h K v:=by
 obtain ⟨ov,lv,hv,h1,h2,h3,h4⟩:=r
 exact ⟨ov,lv,hv,h1,h2.le hJ,h3.le hJ,h4.le hJ⟩
def bx14 (n b:Nat) (os:List Nat) (l:List G.Tb) (h:List Nat):Bx:=⟨12,13,31,#[.int .i64 0,.int .i64 0,.slice none 0 0,.slice none 0 0,.slice none 0 0],fun cs J=>IsR n b os l h J (.agg cs)⟩
def doG (S:Nat) (s':G.St) (ks':List (Nat × G.Tb)) (m mk:PH) (t:Nat) (vals:Nat→Value) (J:PH) (ns:List PH):Prop :=
 match t with
 | 0=>ns=[m,mk]
 | 1=>∃ r k m' mk',vals 7=.tuple #[r,k,.bool true]∧StAt S s' m'∧KnAt J mk' k ks'∧ns=[m',mk']
 | 2=>∃ r k m' mk',vals 8=.tuple #[r,k,.bool true]∧StAt S s' m'∧KnAt J mk' k ks'∧ns=[m',mk']
 | 3=>∃ m' mk',StAt S s' m'∧KnAt J mk' (vals 10) ks'∧ns=[m',mk']
 | 4=>∃ m' mk',StAt S s' m'∧KnAt J mk' (vals 14) ks'∧ns=[m',mk']
 | _=>True
theorem doG.gst {S:Nat} {s':G.St} {ks':List (Nat × G.Tb)} {m mk:PH} (t:Nat) (vals vals':Nat→Value) (J:PH) (ns:List PH) (h:∀ j ∈ [7,8,10,14].take t,vals j=vals' j) (hg:doG S s' ks' m mk t vals J ns):doG S s' ks' m mk t vals' J ns:=by
 match t with
 | 0=>exact hg
 | 1=>obtain ⟨r,k,m',mk',h1,h2⟩:=hg;exact ⟨r,k,m',mk',(h 7 (by simp)).symm.trans h1,h2⟩
 | 2=>obtain ⟨r,k,m',mk',h1,h2⟩:=hg;exact ⟨r,k,m',mk',(h 8 (by simp)).symm.trans h1,h2⟩
 | 3=>obtain ⟨m',mk',h1,h2,h3⟩:=hg;exact ⟨m',mk',h1,by rw [← h 10 (by simp)];exact h2,h3⟩
 | 4=>obtain ⟨m',mk',h1,h2,h3⟩:=hg;exact ⟨m',mk',h1,by rw [← h 14 (by simp)];exact h2,h3⟩
 | t+5=>exact trivial
theorem doG.gle {S:Nat} {s':G.St} {ks':List (Nat × G.Tb)} {m mk:PH} (t:Nat) (vals:Nat→Value) (J J':PH) (ns:List PH) (hJ:PH.le J J') (hg:doG S s' ks' m mk t vals J ns):doG S s' ks' m mk t vals J' ns:=by
 match t with
 | 0=>exact hg
 | 1=>obtain ⟨r,k,m',mk',h1,h2,h3,h4⟩:=hg;exact ⟨r,k,m',mk',h1,h2,h3.le hJ,h4⟩
 | 2=>obtain ⟨r,k,m',mk',h1,h2,h3,h4⟩:=hg;exact ⟨r,k,m',mk',h1,h2,h3.le hJ,h4⟩
 | 3=>obtain ⟨m',mk',h1,h2,h3⟩:=hg;exact ⟨m',mk',h1,h2.le hJ,h3⟩
 | 4=>obtain ⟨m',mk',h1,h2,h3⟩:=hg;exact ⟨m',mk',h1,h2.le hJ,h3⟩
 | t+5=>exact trivial
theorem kn_start {J:PH} {X N c1 c2:Nat} {A1 A2:Option Addr} {X1 X2:G.Tb} (h1:BoolR J (.slice A1 N c1) X1) (h2:BoolR J (.slice A2 N c2) X2):KnAt J (PH.one X (.cells #[.int .i64 0,.slice A1 N c1,.int .i64 1,.slice A2 N c2] 38)) (.slice (some ⟨X,0,none⟩) 2 2) [(0,X1),(1,X2)]:=by
 refine ⟨[(0,.slice A1 N c1),(1,.slice A2 N c2)],⟨rfl,fun i k hk=>?_⟩,OwnP.lit X _ 2 2 _ (by decide) rfl⟩
 match i,hk with
 | 0,hk=>injection hk with hk;subst hk;exact ⟨_,rfl,h1⟩
 | 1,hk=>injection hk with hk;subst hk;exact ⟨_,rfl,h2⟩
 | i+2,hk=>simp at hk
theorem perm_ch (ro bs ns:List PH):(ro ++ (bs ++ ns)).Perm (ns ++ (ro ++ bs)):=by
 rw [← List.append_assoc];exact List.perm_append_comm
set_option maxRecDepth 100000 in
set_option maxHeartbeats 4000000 in
theorem nplays_long (W:World) (q:Nat) (room:Int) (A:Option Addr) (cap:Nat) (acts:List Bt) (h40:40<(acts.length:Int)) :
 Calls Tryz.prog 3 #[.int .u8 (q:Int),.int .i64 room,.slice A acts.length cap] W fun e w'=>e=.returned (.bool true)∧Below W.heap.size W w':=by
 have hS:=Sat.start W
 generalize acts.length=len at *
 go_enter Tryz.func3,Tryz.ntmps3
 go_wp2_with (first|(go_at_call 4;((with_reducible refine Calls.mono (lives_any hS) ?_);clear hS;rintro e w ⟨rfl,hS⟩)))
 go_ret
 exact ⟨rfl,hS.end_ (PH.le.refl _)⟩
set_option maxRecDepth 100000 in
set_option maxHeartbeats 4000000 in
theorem nplays_bad (W:World) (q:Nat) (room:Int) (A:Option Addr) (cap:Nat) (acts:List Bt) (hq:q<256) (h40:¬ 40<(acts.length:Int)) (hr:room<1∨1048576<room) :
 Calls Tryz.prog 3 #[.int .u8 (q:Int),.int .i64 room,.slice A acts.length cap] W fun e w'=>e=.returned (.bool true)∧Below W.heap.size W w':=by
 have hS:=Sat.start W
 generalize acts.length=len at *
 have HB:=Lib.hid (fun x:Int=>(show x<0∨64<x∨room<1∨1048576<room from .inr (.inr hr)))
 clear hr
 go_enter Tryz.func3,Tryz.ntmps3
 go_wp2_with (first
  | (go_at_call 5;(with_reducible refine Calls.mono (nnew_bad _ _ _ (HB.out _)) ?_);rintro e w9 ⟨rfl,rfl⟩)
  | (go_at_call 6;(with_reducible refine Calls.mono (rnew_bad (HB.out _) hS) ?_);clear hS;rintro e w ⟨rfl,hS⟩)
  | (go_at_call 4;((with_reducible refine Calls.mono (lives_any hS) ?_);clear hS;rintro e w ⟨rfl,hS⟩))
  | ((with_reducible refine atList ?_);first|((with_reducible refine isAllocD 10 ?_);(refine' al (z:=_) hS rfl rfl ?ha ?_);(case ha=>exact ty_z31);clear hS;intro R10 w hS;(try simp only [Value.cells] at hS);(try simp only [Act.put,zE,zF,zG]))|((with_reducible refine isGuard ?_);  ((with_reducible refine guarded_yes ?hw ?_);case hw=>(simp only [Region.wanted,yielded,zC,zA,zB,zK,beq_self_eq_true];done)) )|((with_reducible refine isStore ?_);(first|(refine stN 0 hS rfl rfl rfl rfl rfl ?ha rfl rfl ?_;(case ha=>exact ty_sz31)));clear hS;intro w hS;(try simp only [zG,Act.eval,zD,zC,zA,zB,zJ,Value.cells] at hS);(try simp only [Act.put])) ))
 go_ret
 exact ⟨rfl,hS.end_ (PH.le.refl _)⟩
set_option maxRecDepth 100000 in
set_option maxHeartbeats 16000000 in
theorem nplays_ok (W:World) (q b:Nat) (A:Option Addr) (cap:Nat) (acts:List Bt) (hq:q<256) (h40:¬ 40<(acts.length:Int)) (h1:1≤b) (h2:b≤1048576) (hA:RowB (heapOf W) A acts) (hb:∀ x ∈ acts,x.k<256∧x.a<256∧x.b<256) :
 Calls Tryz.prog 3 #[.int .u8 (q:Int),nv b,.slice A acts.length cap] W fun e w'=>e=.returned (.bool true)∧Below W.heap.size W w':=by
 have hS:=Sat.start W
 have HAc:=Lib.hid hA
 have HBd:=Lib.hid hb
 clear hA hb
 obtain ⟨n,hn⟩:∃ n,q % 5=n:=⟨_,rfl⟩
 have hn4:n≤4:=by omega
 have hnq:((q:Int).tmod 5)=(n:Int):=by rw [Int.tmod_eq_emod_of_nonneg (by omega)];omega
 have hst:=G.ps_start n b hn4 h1 h2
 have HPS:=Lib.hid hst
 clear hst
 go_enter Tryz.func3,Tryz.ntmps3
 go_upto_region 10 with (first
  | (go_at_call 5;(with_reducible refine Calls.mono (snew_ok n b (Nat.le_trans hn4 (by decide)) h1 h2 hS) ?_);clear hS;rintro e w ⟨S,m,rfl,hA,hS⟩;have HA:=Lib.hid hA;clear hA)
  | (go_at_call 6;(with_reducible refine Calls.mono (rnew_ok n b (Nat.le_trans hn4 (by decide)) h1 h2 hS) ?_);clear hS;rintro e w ⟨q9,mr,rfl,hO,hS⟩;obtain ⟨Ar,cr,rfl,_⟩:=hO.shape;have HO:=Lib.hid hO;clear hO)
  | ((with_reducible refine atList ?_);first|((with_reducible refine isAllocD 10 ?_);(refine' al (z:=_) hS rfl rfl ?ha ?_);(case ha=>exact ty_z31);clear hS;intro X10 w hS;(try simp only [Value.cells] at hS);(try simp only [Act.put,zE,zF,zG]))|((with_reducible refine isGuard ?_);  ((with_reducible refine guarded_yes ?hw ?_);case hw=>(simp only [Region.wanted,yielded,zC,zA,zB,zK,beq_self_eq_true];done)) )|((with_reducible refine isStore ?_);(first|(refine stN 0 hS rfl rfl rfl rfl rfl ?ha rfl rfl ?_;(case ha=>exact ty_sz31)));clear hS;intro w hS;(try simp only [zG,Act.eval,zD,zC,zA,zB,zJ,Value.cells] at hS);(try simp only [Act.put])) ))
 have hSp:=hS.perm (perm_front 1 rfl)
 simp only [List.eraseIdx_cons_succ,List.eraseIdx_cons_zero] at hSp
 obtain ⟨J1,l1,lO,hS1,_⟩:=hSp.ice
 have hO:OwnP mr 3 1 (.slice Ar n cr) (List.range n).length ((List.range n).flatMap ivC):=by rw [List.length_range];exact HO.out
 have hN:NumR J1 (.slice Ar n cr) (List.range n):=hO.num.le lO
 have HN:=Lib.hid hN
 have Hl1:=Lib.hid l1
 have hS:=hS1
 clear hS1 hSp HO hO hN l1 lO
 have HCs:=Lib.hid (fun (c:Bool) (J:PH) (ms:List PH) (w':World) (h:Sat W J ms w')=>show Calls Tryz.prog 7 #[.bool c,nv n] w' (fun e w''=>∃ A c' K,e=.returned (.slice A (2 ^ n) c')∧J.le K∧BoolR K (.slice A (2 ^ n) c') (List.replicate (2 ^ n) c)∧Sat W K ms w'') from (rconst_any n c (Nat.le_trans hn4 (by decide)) h).mono (by
  rintro e w2 ⟨u,K,rfl,hK,hb,h8⟩
  have hb2:=hb
  obtain ⟨⟨A,c',rfl⟩,_⟩:=hb2
  rw [List.length_replicate] at hb
  exact ⟨A,c',K,by rw [List.length_replicate],hK,hb,h8⟩))
 generalize 2 ^ n=N at *
 go_upto_region 11 with (first
  | (go_at_call 7;(with_reducible refine Calls.mono (HCs.out true _ _ _ hS) ?_);clear hS;rintro e w ⟨A1,c1,J2,rfl,k2,b2,hS⟩;have Hk2:=Lib.hid k2;have HB2:=Lib.hid b2;clear k2 b2)
  | (go_at_call 7;(with_reducible refine Calls.mono (HCs.out false _ _ _ hS) ?_);clear hS;rintro e w ⟨A2,c2,J3,rfl,k3,b3,hS⟩;have Hk3:=Lib.hid k3;have HB3:=Lib.hid b3;clear k3 b3)
  | ((with_reducible refine atList ?_);  ((with_reducible refine isBuildSlice ?_);(refine' bsl hS ?hr ?_);(case hr=>(intro w0;go_simp;rfl));clear hS;intro XS w hS;(try simp only [Act.eval,zD,zC,zA,zB,zJ,Value.cells] at hS);(try simp only [Act.put,zE,zF,zG]))))
 have Hk0:=Lib.hid (kn_start (X:=XS) (HB2.out.le Hk3.out) HB3.out)
 have HI1:=Lib.hid (PH.le.trans Hl1.out (PH.le.trans Hk2.out Hk3.out))
 have HN3:=Lib.hid (HN.out.le (PH.le.trans Hk2.out Hk3.out))
 clear Hk2 Hk3 HB2 HB3 HN Hl1
 go_upto_region 12 with fail
 go_loopw [12,13,14,15,16] (fun v12 v13 _ _ _ wr=>∃ (i:Nat) (s:G.St) (l:List G.Tb) (h:List Nat) (ks:List (Nat × G.Tb)) (I m mk:PH) (ov lv hv:Value) (Ak:Option Addr) (ck:Nat),i≤acts.length∧v13=.int .i64 (i:Int)∧G.PS n b i s l h ks∧ks.length≤60∧(heapOf W).le I∧StAt S s m∧RowsR I lv l∧NumR I hv h∧NumR I ov s.vars∧v12=.slice Ak ks.length ck∧KnAt I mk (.slice Ak ks.length ck) ks∧Sat W I [PH.one X10 (.cells #[nv n,nv b,ov,lv,hv] 31),m,mk] wr) (fun _ v13 _ _ _ _=>acts.length - (intOf v13).toNat)
 case atStart=>exact ⟨0,_,_,_,_,J3,m,_,_,_,_,_,_,Nat.zero_le _,rfl,HPS.out,(by show (2:Nat)≤60;omega),HI1.out,HA.out,RowsR.nil _ _ _,⟨⟨none,0,rfl⟩,fun h=>absurd h (Nat.lt_irrefl 0)⟩,HN3.out,rfl,Hk0.out,hS.perm (List.perm_append_comm (l₁:=[_]) (l₂:=[_,_]))⟩
 case round =>
  clear hS Hk0 HI1 HN3 HA HPS HCs
  obtain ⟨i,s,l,h,ks,I,m,mk,ov,lv,hv,Ak,ck,hi,rfl,hps,hks,hI0,hA,hl,hh,hoo,rfl,hkn,hS⟩:=hrel
  have HI0:=Lib.hid hI0
  by_cases hlt:i<acts.length
  case neg =>
   clear hA hl hh hoo hkn hps hI0
   go_wp2_with (first|(go_at_call 4;((with_reducible refine Calls.mono (lives_any hS) ?_);clear hS;rintro e w ⟨rfl,hS⟩)))
   go_ret
   exact ⟨rfl,hS.end_ HI0.out⟩
  obtain ⟨XA,off,rfl,hcs0⟩:=HAc.out.at_ hlt
  have hbd:=HBd.out _ (List.getElem_mem hlt)
  generalize acts[i]=a at *
  obtain ⟨kd,qa,qb,vi⟩:=a
  obtain ⟨hkd,hqa,hqb⟩:=hbd
  have hcs:Cells I XA (off+i * 4) [.int .u8 (kd:Int),.int .u8 (qa:Int),.int .u8 (qb:Int),.int .i64 vi]:=hcs0.le hI0
  clear hcs0
  obtain ⟨s',l',h',ks',hpn,hkl,hdo⟩:=do_any (S:=S) (v:=vi) hn4 (by omega) hps (by omega) hkd hqa hqb
  have HPn:=Lib.hid hpn
  have HDo:=Lib.hid (fun (w':World) (J9:PH) (ms':List PH) (hJ:I.le J9) (h9:Sat W J9 (m::mk::ms') w')=>show Calls Tryz.prog 8 #[vPt S,.agg #[nv n,nv b,ov,lv,hv],.slice Ak ks.length ck,.agg #[.int .u8 (kd:Int),.int .u8 (qa:Int),.int .u8 (qb:Int),.int .i64 vi]] w' (fun e w''=>∃ r9 k9 K9 m9 mk9,e=.returned (.tuple #[r9,k9,.bool true])∧J9.le K9∧IsR n b s'.vars l' h' K9 r9∧StAt S s' m9∧KnAt K9 mk9 k9 ks'∧Sat W K9 (m9::mk9::ms') w'') from (hdo W w' J9 m mk ms' ov lv hv _ hA (hl.le hJ) (hh.le hJ) (hoo.le hJ) (hkn.le hJ) h9).mono (by
   rintro e w2 ⟨ov',lv',hv',kv',K9,m9,mk9,rfl,hK,g1,g2,g3,g4,g5,h8⟩
   exact ⟨_,_,K9,m9,mk9,rfl,hK,⟨ov',lv',hv',rfl,g1,g2,g3⟩,g5,g4,h8⟩))
  have ii:(i:Int)<(acts.length:Int):=by omega
  clear hdo hpn hps hl hh hoo hkn hA hI0 hkd hqa hqb
  go_upto_region 14 with fail
  refine region_ch [[],[],[],[],[],[3,4],[3,4,5],[0,1,2,3,4,5,6],[0,1,2,3,4,5,6,7],[0,1,2,3,4,5,6,7,8],[0,1,2,3,4,5,6,7,8],[0,1,2,3,4,5,6,7,8],[],[0,1,2,3,4,5,6,7,8,9,12],[0,1,2,3,4,5,6,7,8,9,10,12,13],[0,1,2,3,4,5,6,7,8,9,10,11,12,13,14]] W I [PH.one X10 (.cells #[nv n,nv b,ov,lv,hv] 31)] [m,mk] [bx14 n b s'.vars l' h']
   [fun v _=>v=vPt S,fun v _=>v=.agg #[nv n,nv b,ov,lv,hv],fun v _=>v=.slice Ak ks.length ck,fun v _=>v=.slice (some ⟨XA,off,none⟩) acts.length cap,fun v _=>v=nv i,fun v _=>v=.pointer (some ⟨XA,off+i * 4,none⟩),fun v _=>v=.agg #[.int .u8 (kd:Int),.int .u8 (qa:Int),.int .u8 (qb:Int),.int .i64 vi],fun v J=>∃ r k,v=.tuple #[r,k,.bool true]∧IsR n b s'.vars l' h' J r,fun v J=>∃ r k,v=.tuple #[r,k,.bool true]∧IsR n b s'.vars l' h' J r,fun v J=>IsR n b s'.vars l' h' J v,fun _ _=>True,fun v _=>v=.bool true,fun _ _=>True,fun _ _=>True,fun _ _=>True,fun v _=>v=.bool true] [7,8,10,14] (doG S s' ks' m mk)
   (by kernel_rfl) (by kernel_rfl) (by rfl) (by simp) hS rfl ?last ?monoC doG.gst doG.gle ?okb ?dal ?fill ?plain ?step ?fin
  case last=>repeat (first|exact Lasting.nil|refine Lasting.cons (fun _ _ _ _ h=>h) ?_|refine Lasting.cons (fun v I J hJ h=>h.le hJ) ?_|refine Lasting.cons (fun v I J hJ ⟨r,k,h1,h2⟩=>⟨r,k,h1,h2.le hJ⟩) ?_)
  case monoC =>
   intro b' hb' cs J K hJK
   rw [List.mem_singleton] at hb'
   subst hb'
   exact fun h=>IsR.le h hJK
  case okb =>
   intro b' hb'
   rw [List.mem_singleton] at hb'
   subst hb'
   exact ⟨by simp [bx14],⟨rfl,rfl,rfl⟩,⟨_,zeroB_eq ty_z31,rfl⟩,⟨rfl,rfl,_,rfl⟩,by simp [bx14],sizeB_eq ty_sz31⟩
  case dal =>
   intro b' hb' v' J
   rw [List.mem_singleton] at hb'
   subst hb'
   exact ⟨trivial,trivial⟩
  case fill =>
   intro b' hb' vals J hJ hg
   rw [List.mem_singleton] at hb'
   subst hb'
   have h9:IsR n b s'.vars l' h' J (vals 9):=hg.get 9 (by simp [bx14])
   obtain ⟨ov',lv',hv',e9,hr9⟩:=h9
   obtain ⟨oA,oC,A1,c1,B1,d1,rfl,rfl,rfl⟩:=hr9.sl
   refine ⟨.agg #[nv n,nv b,.slice oA s'.vars.length oC,.slice A1 l'.length c1,.slice B1 h'.length d1],by simp only [bx14,storeArg,textL,actL,dstAt,opAt,zH,zI,zA,zB,zK,if_true,Act.put,zE,zF,zG,e9,opAt,Act.eval,zD,zC,zA,zB,zJ],rfl,by simp [Value.cells,Value.oneCell'],⟨_,_,_,rfl,hr9⟩⟩
  case plain =>
   repeat' (first|exact trivial|apply And.intro)
   all_goals first|exact .inl rfl|skip
   rotate_left 1
   · refine .inr ?_
     intro vals J9 ns w hg hJ9 hS
     simp only [zH,zI,Given,Facts] at hg;simp only [textL,actL,dstAt,opAt,zH,zI,zB,zK,if_true,Act.put,zE,zF,zG];refine ⟨?_⟩;refine wpStep_of (fun K hK=>?_);have HK:=Lib.hid hK;clear hK;rw [if_pos (by rfl)]
     refine wp_ldoN hS (.head _) ty_agg31 rfl ty_sz31 ?_
     refine HK.out _ _ ⟨rfl,J9,PH.le.refl _,hS,?_⟩
     clear HK
     simp only [Facts]
     simp only [outOf,zH,zI,Act.put,zE,zF,zG,zD,zC,zA,zB,zJ]
   rotate_left 5
   · refine .inr ?_
     intro vals J9 ns w hg hJ9 hS
     obtain ⟨r8,k8,e8,h8⟩:∃ r k,vals 8=.tuple #[r,k,.bool true]∧IsR n b s'.vars l' h' J9 r:=hg.get 8 (by decide)
     have HR8:=Lib.hid h8
     simp only [textL,actL,dstAt,opAt,zH,zI,zA,zB,zK,if_true,Act.put,zE,zF,zG,e8]
     refine ⟨?_⟩
     refine wpStep_of (fun K hK=>?_)
     have HK:=Lib.hid hK
     clear hK
     rw [if_pos (by rfl)]
     go_wp2_with fail
     refine HK.out _ _ ⟨rfl,J9,PH.le.refl _,hS,?_⟩
     clear HK
     simp only [Facts]
     simp only [outOf,zH,zI,zD,zC,zA,zB,zJ]
     exact HR8.out
   · refine .inr ?_
     intro vals J9 ns w hg hJ9 hS
     obtain ⟨r8,k8,e8,h8⟩:∃ r k,vals 8=.tuple #[r,k,.bool true]∧IsR n b s'.vars l' h' J9 r:=hg.get 8 (by decide)
     have HR8:=Lib.hid h8
     simp only [textL,actL,dstAt,opAt,zH,zI,zA,zB,zK,if_true,Act.put,zE,zF,zG,e8]
     refine ⟨?_⟩
     refine wpStep_of (fun K hK=>?_)
     have HK:=Lib.hid hK
     clear hK
     rw [if_pos (by rfl)]
     go_wp2_with fail
     refine HK.out _ _ ⟨rfl,J9,PH.le.refl _,hS,?_⟩
     clear HK
     simp only [Facts]
     simp only [outOf,zH,zI,zD,zC,zA,zB,zJ]
   all_goals
    refine .inr ?_
    intro vals J9 ns w hg hJ9 hS
    simp only [zH,zI,Given,Facts] at hg;simp only [textL,actL,dstAt,opAt,zH,zI,zA,zB,zK,if_true,Act.put,zE,zF,zG,hg];refine ⟨?_⟩;refine wpStep_of (fun K hK=>?_);have HK:=Lib.hid hK;clear hK;rw [if_pos (by rfl)]
    (first|((with_reducible refine atLoad ?_);first|((refine' wp_ldiN (vs:=_) hS hJ9 ?ha rfl ?hc ?hb ?_);(case ha=>first|exact ty_agg43);(case hc=>assumption);(case hb=>first|exact ty_sz43)))|(go_wp2_with fail))
    refine HK.out _ _ ⟨rfl,J9,PH.le.refl _,hS,?_⟩
    clear HK
    simp only [Facts]
    simp only [outOf,zH,zI,Act.put,zE,zF,zG,zD,zC,zA,zB,zJ]
    ( done )
  case step =>
   refine ⟨⟨⟨⟨trivial,?s0⟩,?s1⟩,?s2⟩,?s3⟩
   case s0 =>
    intro vals J bs ns w' hg hJ hS hG
    have hG:ns=_:=hG
    subst hG
    simp only [zH,zI,Given,Facts] at hg;simp only [textL,actL,dstAt,opAt,zH,zI,zA,zB,zK,if_true,Act.put,zE,zF,zG,hg];refine ⟨?_⟩;refine wpStep_of (fun K hK=>?_);have HK:=Lib.hid hK;clear hK;rw [if_pos (by rfl)]
    have hS:Sat W J (m::mk::([PH.one X10 (.cells #[nv n,nv b,ov,lv,hv] 31)] ++ bs)) w':=hS.perm (perm_ch [PH.one X10 (.cells #[nv n,nv b,ov,lv,hv] 31)] bs [m,mk])
    go_wp2_with (first|(go_at_call 8;((with_reducible refine Calls.mono (HDo.out _ _ _ hJ hS) ?_);clear hS;rintro e w ⟨r9,k9,J9,m9,mk9,rfl,hJ9,hr9,hA9,hk9,hS⟩;have HJ9:=Lib.hid hJ9;have HR9:=Lib.hid hr9;have HA9:=Lib.hid hA9;have HK9:=Lib.hid hk9;clear hJ9 hr9 hA9 hk9)))
    refine HK.out _ _ ⟨rfl,J9,[m9,mk9],HJ9.out,Sat.perm (ms:=[m9,mk9] ++ ([PH.one X10 (.cells #[nv n,nv b,ov,lv,hv] 31)] ++ bs)) hS (perm_ch [PH.one X10 (.cells #[nv n,nv b,ov,lv,hv] 31)] bs [m9,mk9]).symm,?_,?_⟩
    · simp only [Facts]
      simp only [outOf,zH,zI,zD,zC,zA,zB,zJ]
      exact ⟨r9,k9,rfl,HR9.out⟩
    · simp only [outOf,zD,zC,zA,zB,zJ]
      exact ⟨r9,k9,m9,mk9,upd_self _ _ _,HA9.out,HK9.out,rfl⟩
   case s1 =>
    intro vals J bs ns w hg hJ hS hG
    obtain ⟨r9,k9,m9,mk9,e7,hA9,hk9,rfl⟩:=hG
    obtain ⟨r8,k8,e8,h8⟩:∃ r k,vals 7=.tuple #[r,k,.bool true]∧IsR n b s'.vars l' h' J r:=hg.get 7 (by decide)
    have HR8:=Lib.hid h8
    have HA9:=Lib.hid hA9
    have HK9:=Lib.hid hk9
    have h78:r8=r9:=by rw [e7] at e8;injection e8 with e8;injection e8 with e8;injection e8 with e8;exact e8.symm
    subst h78
    simp only [textL,actL,dstAt,opAt,zH,zI,zA,zB,zK,if_true,Act.put,zE,zF,zG,e7]
    refine ⟨?_⟩
    refine wpStep_of (fun K hK=>?_)
    have HK:=Lib.hid hK
    clear hK e7 e8 hk9 hA9 h8
    rw [if_pos (by rfl)]
    go_wp2_with fail
    refine HK.out _ _ ⟨rfl,J,[m9,mk9],PH.le.refl _,hS,?_,?_⟩
    · simp only [Facts]
      simp only [outOf,zH,zI,zD,zC,zA,zB,zJ]
      exact ⟨_,_,rfl,HR8.out⟩
    · simp only [outOf,zD,zC,zA,zB,zJ]
      exact ⟨_,k9,m9,mk9,upd_self _ _ _,HA9.out,HK9.out,rfl⟩
   case s2 =>
    intro vals J bs ns w hg hJ hS hG
    obtain ⟨r9,k9,m9,mk9,e8,hA9,hk9,rfl⟩:=hG
    have HA9:=Lib.hid hA9
    have HK9:=Lib.hid hk9
    simp only [textL,actL,dstAt,opAt,zH,zI,zA,zB,zK,if_true,Act.put,zE,zF,zG,show vals 8=.tuple #[r9,k9,.bool true] from e8]
    refine ⟨?_⟩
    refine wpStep_of (fun K hK=>?_)
    have HK:=Lib.hid hK
    clear hK e8 hk9 hA9
    rw [if_pos (by rfl)]
    go_wp2_with fail
    refine HK.out _ _ ⟨rfl,J,[m9,mk9],PH.le.refl _,hS,trivial,?_⟩
    simp only [outOf,zD,zC,zA,zB,zJ]
    exact ⟨m9,mk9,HA9.out,by rw [upd_self];exact HK9.out,rfl⟩
   case s3 =>
    intro vals J bs ns w hg hJ hS hG
    obtain ⟨m9,mk9,hA9,hk9,rfl⟩:=hG
    have HA9:=Lib.hid hA9
    have HK9:=Lib.hid hk9
    clear hA9 hk9
    simp only [zH,zI,Given,Facts] at hg;simp only [textL,actL,dstAt,opAt,zH,zI,zA,zB,zK,if_true,Act.put,zE,zF,zG,hg];refine ⟨?_⟩;refine wpStep_of (fun K hK=>?_);have HK:=Lib.hid hK;clear hK;rw [if_pos (by rfl)]
    go_wp2_with fail
    refine HK.out _ _ ⟨rfl,J,[m9,mk9],PH.le.refl _,hS,trivial,?_⟩
    simp only [outOf,zD,zC,zA,zB,zJ]
    exact ⟨m9,mk9,HA9.out,by rw [upd_self];exact HK9.out,rfl⟩
  case fin =>
   intro vals J bs ns w hJ hg hS hB hG
   cases hB with
   | cons h1 hB =>
   cases hB
   simp only [Bx.st,if_true] at h1
   obtain ⟨Y,cY,eY,rfl,zY,hY⟩:=h1
   have e12:vals 12=vPt Y:=eY
   obtain ⟨m9,mk9,hA9,hk9,rfl⟩:=hG
   have hY:IsR n b s'.vars l' h' J (.agg cY):=hY
   obtain ⟨ov',lv',hv',eC,hr9⟩:=hY
   injection eC with eC
   subst eC
   have hk9:KnAt J mk9 (vals 14) ks':=hk9
   have hk8:=hk9
   obtain ⟨us9,hu9,hO9⟩:=hk8
   obtain ⟨Ak9,ck9,e14,_⟩:=hO9.shape
   rw [e14] at hk9
   clear hu9 hO9
   obtain ⟨oA,oC,A9,c9,B9,d9,rfl,rfl,rfl⟩:=hr9.sl
   simp only [List.cons_append,List.nil_append] at hS
   have HA9:=Lib.hid hA9
   have HK9:=Lib.hid hk9
   have HR9:=Lib.hid hr9
   have HJ9:=Lib.hid hJ
   have HRt:=Lib.hid (fun (w':World) (p1 p2:PH) (h9:Sat W J [p1,p2,m9,mk9] w')=>show Calls Tryz.prog 9 #[vPt S,.agg #[nv n,nv b,.slice oA s'.vars.length oC,.slice A9 l'.length c9,.slice B9 h'.length d9],.slice Ak9 ks'.length ck9] w' (fun e w''=>e=.returned (.bool true)∧Sat W J [p1,p2,m9,mk9] w'') from (right_any hn4 (by omega) HPn.out (by omega) HA9.out HR9.out.1 HR9.out.2.1 HR9.out.2.2 HK9.out (h9.perm (List.perm_append_comm (l₁:=[p1,p2]) (l₂:=[m9,mk9])))).mono (by
    rintro e w2 ⟨rfl,h8⟩
    exact ⟨rfl,Sat.perm h8 (List.perm_append_comm (l₁:=[m9,mk9]) (l₂:=[p1,p2]))⟩))
   simp only [List.length_cons,List.length_nil,Nat.reduceAdd,Below_,Facts,zH,zI,true_and,and_true] at hg;simp only [List.length_cons,List.length_nil,Nat.reduceAdd,textL,actL,dstAt,zA,zB,zK,if_true,Act.put,zE,zF,zG,hg];refine ⟨?_⟩
   clear hg
   simp only [e12,e14]
   clear e12 e14 eY zY hJ hr9 hk9 hA9
   by_cases h60:60<(ks'.length:Int)
   · go_wp2_with (first|((with_reducible refine atList ?_);first|((with_reducible refine isGuard ?_);  ((with_reducible refine guarded_yes ?hw ?_);case hw=>(simp only [Region.wanted,yielded,zC,zA,zB,zK,beq_self_eq_true];done)) )|((with_reducible refine isLoad ?_);( (refine ldN 1 hS rfl rfl ?ha rfl rfl ?hb ?_;(case ha=>exact ty_agg31);(case hb=>exact ty_sz31)) );(try simp only [Act.put,zE,zF,zG]))|((with_reducible refine isStore ?_);( (refine stN 0 hS rfl rfl rfl rfl rfl ?ha rfl rfl ?_;(case ha=>exact ty_sz31)) );clear hS;intro w hS;(try simp only [zG,Act.eval,zD,zC,zA,zB,zJ,Value.cells] at hS);(try simp only [Act.put])) )|(go_at_call 4;((with_reducible refine Calls.mono (lives_any hS) ?_);clear hS;rintro e w ⟨rfl,hS⟩)))
     go_ret
     exact ⟨rfl,hS.end_ (PH.le.trans HI0.out HJ9.out)⟩
   · go_wp2_with (first|((with_reducible refine atList ?_);first|((with_reducible refine isGuard ?_);  ((with_reducible refine guarded_yes ?hw ?_);case hw=>(simp only [Region.wanted,yielded,zC,zA,zB,zK,beq_self_eq_true];done)) )|((with_reducible refine isLoad ?_);(first|(refine ldN 0 hS rfl rfl ?ha rfl rfl ?hb ?_;(case ha=>exact ty_agg31);(case hb=>exact ty_sz31))|(refine ldN 1 hS rfl rfl ?ha rfl rfl ?hb ?_;(case ha=>exact ty_agg31);(case hb=>exact ty_sz31)) );(try simp only [Act.put,zE,zF,zG]))|((with_reducible refine isStore ?_);( (refine stN 0 hS rfl rfl rfl rfl rfl ?ha rfl rfl ?_;(case ha=>exact ty_sz31)) );clear hS;intro w hS;(try simp only [zG,Act.eval,zD,zC,zA,zB,zJ,Value.cells] at hS);(try simp only [Act.put])) )|(go_at_call 9;((with_reducible refine Calls.mono (HRt.out _ _ _ hS) ?_);clear hS;rintro e w ⟨rfl,hS⟩)))
     exact ⟨⟨i+1,s',l',h',ks',J,m9,mk9,_,_,_,_,_,by omega,by go_num,HPn.out,by omega,PH.le.trans HI0.out HJ9.out,HA9.out,HR9.out.1,HR9.out.2.1,HR9.out.2.2,rfl,HK9.out,(hS.perm (List.Perm.swap _ _ _)).drop⟩,by simp [intOf];omega⟩
end Go.Proofs.YtdhkkkhnjooioaaGreat
