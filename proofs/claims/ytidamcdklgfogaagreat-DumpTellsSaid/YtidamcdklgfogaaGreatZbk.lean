import Derived.Test.YtidamcdklgfogaaGreatZab
import Derived.Test.YtidamcdklgfogaaGreatZbj
set_option linter.unusedSimpArgs false
set_option linter.unusedVariables false
set_option maxRecDepth 100000
set_option maxHeartbeats 2000000
namespace Go.Proofs.YtidamcdklgfogaaGreat
section
open Go.RowKit
theorem wpStepZ_mono {Z:List PanicEntry→World→Prop} {P:Program} {ops:List Oper} {o:Oper} {K K':Act→World→Prop} {a:Act} {w:World} (h:wpStepZ Z P ops o K a w) (hk:∀ a w,K a w→K' a w):wpStepZ Z P ops o K' a w:=by
 unfold wpStepZ at h ⊢
 split
 · rename_i hw;rw [if_pos hw] at h;exact Oper.wp_mono hk h
 · rename_i hw;rw [if_neg hw] at h;exact hk _ _ h
theorem Zc (Z:List PanicEntry→World→Prop) {P:Program} {id:Nat} {ops:List Oper} {Q:Exit→Act→World→Prop} {a:Act} {w:World} (A:List (List Nat)) (E:World) (I:PH) (ms:List PH) (Ds:List Fct)
  (c:List Nat) (G:Nat→(Nat→Value)→PH→List PH→Prop)
  (hm:P.follows .mixedOrders=true) (chk:ogOk ops A a.tmps.size=true) (hc:chainOk A [] c ops.length=true)
  (hS:Sat E I ms w) (hG:G 0 (fun _=>undef) I ms) (lasting:Lasting Ds)
  (gst:∀ s vals vals' J ns,(∀ j ∈ c.take s,vals j=vals' j)→G s vals J ns→G s vals' J ns) (gle:∀ s vals J J' ns,PH.le J J'→G s vals J ns→G s vals J' ns)
  (plain:Below_ (fun k=>c.contains k=true∨∀ (s:Nat) (vals:Nat→Value) (J:PH) (bs:List PH) (w':World),s≤stopAt A c k→Given (fun j=>Facts Ds j (vals j) J) (A.getD k [])→I.le J→Sat E J bs w'→G s vals J bs →
    Veil0 (wpStepZ Z P ops (Qj ops k) (fun a' w''=>a'.defers=a.defers∧∃ J':PH,J.le J'∧Sat E J' bs w''∧Facts Ds k (Qo (Qj ops k) a') J') (Qd ops vals a k) w')) ops.length)
  (step:Below_ (fun s=>∀ (vals:Nat→Value) (J:PH) (bs:List PH) (w':World),Given (fun j=>Facts Ds j (vals j) J) (A.getD (c.getD s 0) [])→I.le J→Sat E J bs w'→G s vals J bs →
    Veil0 (wpStepZ Z P ops (Qj ops (c.getD s 0)) (fun a' w''=>a'.defers=a.defers∧∃ (J':PH) (ns':List PH),J.le J'∧Sat E J' ns' w''∧Facts Ds (c.getD s 0) (Qo (Qj ops (c.getD s 0)) a') J'∧G (s+1) (upd vals (c.getD s 0) (Qo (Qj ops (c.getD s 0)) a')) J' ns') (Qd ops vals a (c.getD s 0)) w')) c.length)
  (hZ:∀ c (b:Act) w',b.defers=a.defers→Z c w'→Q (.panic c) b w')
  (fin:∀ (vals:Nat→Value) (J:PH) (bs:List PH) (w':World),I.le J→Below_ (fun j=>Facts Ds j (vals j) J) ops.length→Sat E J bs w'→G c.length vals J bs→Veil0 (Q .normal (Qd ops vals a ops.length) w')) :
  (Code.region id ops.toArray true).wp P Q a w:=by
 unfold chainOk at hc
 rw [Bool.and_eq_true] at hc
 obtain ⟨hc1,_⟩:=hc
 have hc1':∀ t,t<c.length→c.getD t 0<ops.length∧(∀ u,u<c.length→t≠u→c.getD t 0≠c.getD u 0)∧(t≠0→c.getD (t - 1) 0 ∈ A.getD (c.getD t 0) []):=fun t ht=>by
  have:=List.all_eq_true.1 hc1 t (List.mem_range.2 ht)
  simp only [Bool.and_eq_true,decide_eq_true_eq,Bool.or_eq_true,beq_iff_eq] at this
  refine ⟨this.1.1,fun u hu hne=>?_,fun h0=>?_⟩
  · have h2:=List.all_eq_true.1 this.1.2 u (List.mem_range.2 hu)
    simp only [Bool.or_eq_true,beq_iff_eq,bne_iff_ne] at h2
    rcases h2 with h2|h2
    · exact absurd h2 hne
    · exact h2
  · rcases this.2 with h2|h2
    · exact absurd h2 h0
    · simpa using h2
 have cmem:∀ t,t<c.length→c.getD t 0 ∈ c:=fun t ht=>by
  rw [yD,yA ht]
  exact List.getElem_mem ht
 have notc:∀ k,k ∉ c→∀ t,t<c.length→c.getD t 0≠k:=fun k hk t ht e=>hk (e ▸ cmem t ht)
 refine region_ogZ Z A E I [] ms (Facts Ds) (fun L vals J ns=>∃ s,s≤c.length∧(∀ t,t<c.length→(L (c.getD t 0)=true↔t<s))∧G s vals J ns) hm chk (by simpa using hS) ⟨0,Nat.zero_le _,fun t ht=>by simp,hG⟩ (fun i v I J hJ=>Facts.lasting lasting i v I J hJ) ?_ hZ ?_
 · intro k hk L vals J ns w' hLk hdown hanc hJ hs ⟨s,h1,h2,h3⟩
   by_cases hkc:k ∈ c
   · obtain ⟨t,ht,rfl⟩:=List.mem_iff_getElem.1 hkc
     have eg:c[t]=c.getD t 0:=by rw [yD,yA ht];rfl
     rw [eg] at hLk hanc ⊢
     have hst:s=t:=by
      have a1:¬ t<s:=fun h=>by rw [(h2 t ht).2 h] at hLk;cases hLk
      by_cases h0:t=0
      · omega
      · have a2:=(h2 (t - 1) (by omega)).1 (hanc _ ((hc1' t ht).2.2 h0)).1
        omega
     subst hst
     refine wpStepZ_mono (step.get s ht vals J ns w' (Given.of fun j hj=>(hanc j hj).2) hJ (by simpa using hs) h3).out fun a' w'' hpost=>?_
     obtain ⟨p1,J',ns',p2,p3,p4,p5⟩:=hpost
     refine ⟨p1,J',ns',p2,by simpa using p3,p4,s+1,ht,fun u hu=>?_,p5⟩
     by_cases hus:u=s
     · subst hus;rw [Kl];simp
     · rw [Kj _ _ ((hc1' u hu).2.1 s ht hus),h2 u hu]
       omega
   · rcases plain.get k hk with h|h
     · exact absurd (by simpa using h) hkc
     · have hst:s≤stopAt A c k:=by
         rcases Nat.lt_or_ge (stopAt A c k) s with hlt|hge
         · exfalso
           have hlc:stopAt A c k<c.length:=by omega
           have:=hdown _ (hc1' _ hlc).1 ((h2 _ hlc).2 hlt) k (stopAt_mem hlc)
           rw [hLk] at this;cases this
         · exact hge
       refine wpStepZ_mono (h s vals J ns w' hst (Given.of fun j hj=>(hanc j hj).2) hJ (by simpa using hs) h3).out fun a' w'' hpost=>?_
       obtain ⟨p1,J',p2,p3,p4⟩:=hpost
       refine ⟨p1,J',ns,p2,by simpa using p3,p4,s,h1,fun t ht=>by rw [Kj _ _ (notc k hkc t ht)];exact h2 t ht,gst s vals _ J' ns (fun j hj=>?_) (gle s vals J J' ns p2 h3)⟩
       rw [Kj]
       rintro rfl
       exact hkc (List.mem_of_mem_take hj)
 · intro vals J ns w' hJ hD hs ⟨L,hL,s,h1,h2,h3⟩
   have hsl:s=c.length:=by
    rcases Nat.lt_or_ge s c.length with hlt|hge
    · have:=(h2 s hlt).1 (hL _ (hc1' s hlt).1)
      omega
    · omega
   subst hsl
   have hB2:Below_ (fun j=>Facts Ds j (vals j) J) ops.length:=by
    have:∀ n,n≤ops.length→Below_ (fun j=>Facts Ds j (vals j) J) n:=fun n=>by
     induction n with
     | zero=>exact fun _=>trivial
     | succ n ih=>exact fun hn=>⟨ih (by omega),hD n (by omega)⟩
    exact this _ (Nat.le_refl _)
   exact (fin vals J ns w' hJ hB2 (by simpa using hs) h3).out
end
section
open Go.RowKit
theorem Sat.iceL:∀ {bs:List PH} {E w:World} {I:PH} {ms:List PH},Sat E I (bs ++ ms) w→∃ J:PH,I.le J∧(∀ b ∈ bs,b.le J)∧Sat E J ms w∧∀ w' ns,Sat E J ns w'→Sat E I (bs ++ ns) w'
 | [],E,w,I,ms,h=>⟨I,PH.le.refl _,(fun b hb=>by cases hb),h,fun _ _ h=>h⟩
 | b::bs,E,w,I,ms,h=>by
   obtain ⟨J,l1,l2,h2,back⟩:=Sat.ice (m:=b) (ms:=bs ++ ms) h
   obtain ⟨K,k1,k2,h3,back2⟩:=Sat.iceL h2
   refine ⟨K,l1.trans k1,fun c hc=>?_,h3,fun w' ns h'=>back _ _ (back2 _ _ h')⟩
   rcases List.mem_cons.1 hc with rfl|hc
   · exact l2.trans k1
   · exact k2 c hc
structure DoOk (Inv:G.Mg→Prop) (F:G.Mg→G.Step Nat):Prop where
 step:∀ m m' rs,Inv m→F m=some (m',rs)→Inv m'
 lt:∀ m m' f,Inv m→F m=some (m',.ok f)→f<4611686018427387904
 ne:∀ m m',Inv m→F m≠some (m',.stop (.err 0))
abbrev Xc:PH:=fun _=>none
abbrev OpP (fid:Nat) (cs:Array Value) (D:Nat) (J:PH) (Inv:G.Mg→Prop) (F:G.Mg→G.Step Nat):Prop:=OpC fid cs D J Inv F nv (fun q=>q=Xc) (fun _ q=>q=Xc)
theorem mdo_pure {fid D:Nat} {cs:Array Value} {Inv:G.Mg→Prop} {F:G.Mg→G.Step Nat} {bs:List PH} (hop:∀ J:PH,(∀ b ∈ bs,b.le J)→OpP fid cs D J Inv F) (hK:KeepsM Inv) (hD:DoOk Inv F)
  {E w:World} {I p:PH} {ms:List PH} {m m':G.Mg} {h er:Nat} (hI:Inv m) (hm:m.do_ F=some (m',h,er)) (hA:MgAt D m p) (hS:Sat E I (bs ++ p::ms) w) :
  Calls Tryz.prog 60 #[vPt D,.func (.func fid) #[] cs] w fun e w'=>e=.returned (.tuple #[nv h,nv er])∧∃ p',MgAt D m' p'∧Sat E I (bs ++ p'::ms) w':=by
 obtain ⟨J,l1,l2,h2,back⟩:=Sat.iceL hS
 refine (mdo_any (hop J l2) hK hD.step hD.lt hD.ne (PH.le.refl J) hI hm hA rfl ((h2.empty).perm (List.Perm.swap _ _ _))).mono ?_
 rintro e w' ⟨rfl,p',h3,h4⟩
 exact ⟨rfl,p',h3,back _ _ h4⟩
theorem var1_op {D X3:Nat} {J:PH} {Inv:G.Mg→Prop} (hK:KeepsM Inv) (v:Int) (h3:J.at X3 0=some (.int .i64 v)):OpP 72 #[vPt X3] D J Inv (fun m=>m.mk_ v 1 0) where
 enter:=fun args w=>by kernel_rfl
 run:=by
  intro E I p q ms w m m' rs X hJ1 hI hF hX hA hq hS
  have i3:I.at X3 0=some (.int .i64 v):=PH.at_le hJ1 h3
  have HM:=yH (fun (w:World) (h:Sat E I (p::q::ms) w)=>xmk_any v 1 0 hF hX (by omega) (by omega) (hK.sane _ hI).tab hA h)
  clear hJ1 h3 hK hI hF hA
  show Calls _ _ #[vPt X,vPt X3] _ _
  cases rs with
  | ok a =>
    simp only [endE] at HM
    go_enter Tryz.func72,Tryz.ntmps72
    go_wp2_with (first|(go_at_call 63;(with_reducible refine yI (HM.out _ hS) ?_);clear hS;rintro e w ⟨rfl,p1,hA1,hS⟩;have HA1:=yH hA1;clear hA1)|((with_reducible refine Qc ?_);first|((with_reducible refine Qb ?_);( ((refine' Ka (v:=_) hS rfl rfl ?ha rfl ?hb ?_);(case ha=>exact Qf);(case hb=>assumption)));(try simp only [Act.put,zE,zF,zG]))))
    go_ret
    exact ⟨rfl,p1,q,HA1.out,hq,hS⟩
  | stop st =>
    simp only [endE] at HM
    go_enter Tryz.func72,Tryz.ntmps72
    go_wp2_with (first|(go_at_call 63;(with_reducible refine yI (HM.out _ hS) ?_);clear hS;rintro e w ⟨rfl,p1,hA1,hS⟩;have HA1:=yH hA1;clear hA1)|((with_reducible refine Qc ?_);first|((with_reducible refine Qb ?_);( ((refine' Ka (v:=_) hS rfl rfl ?ha rfl ?hb ?_);(case ha=>exact Qf);(case hb=>assumption)));(try simp only [Act.put,zE,zF,zG]))))
    refine ⟨rfl,?_⟩
    exact And.intro rfl ⟨p1,q,HA1.out,hq,hS⟩
theorem mvar_any {D:Nat} {Inv:G.Mg→Prop} (x:Int) (hK:KeepsM Inv) (hD:0≤x→DoOk Inv (fun m=>m.mk_ x 1 0)) {E w:World} {I p:PH} {ms:List PH} {m m':G.Mg} {h er:Nat} (hI:Inv m) (hm:m.var_ x=some (m',h,er)) (hA:MgAt D m p) (hS:Sat E I (p::ms) w) :
  Calls Tryz.prog 27 #[vPt D,.int .i64 x] w fun e w'=>e=.returned (.tuple #[nv h,nv er])∧∃ p',MgAt D m' p'∧Sat E I (p'::ms) w':=by
 have hmf:∀ (fn:Fn) (first cap:Array Value) (w:World),(Instr.makeFunc fn first cap).run Tryz.prog w=.ok (.func fn first cap) w:=fun _ _ _ _=>rfl
 have hlv:m.s.level x<0∨0≤x:=by
  by_cases h0:0≤x
  · exact .inr h0
  · refine .inl ?_
    unfold G.St.level
    rw [if_neg (by omega)]
    omega
 unfold G.Mg.var_ at hm
 have hD2:¬ (m.s.level x<0)→∀ (w:World) (X3:Nat),Sat E I (PH.one X3 (.cells #[.int .i64 x] 3)::p::ms) w→Calls Tryz.prog 60 #[vPt D,.func (.func 72) #[] #[vPt X3]] w fun e w'=>e=.returned (.tuple #[nv h,nv er])∧∃ p',MgAt D m' p'∧Sat E I (PH.one X3 (.cells #[.int .i64 x] 3)::p'::ms) w':=fun hn w X3 hS=>by
  rw [if_neg hn] at hm
  refine mdo_pure (bs:=[PH.one X3 (.cells #[.int .i64 x] 3)]) (fun J hJ=>var1_op hK x (PH.at_le (hJ _ (.head _)) (Qk rfl))) hK (hD (by rcases hlv with h|h;exact absurd h hn;exact h)) hI hm hA hS
 have HD:=yH hD2
 have HA:=yH hA
 clear hD2 hK hD hI hlv
 generalize hlev:m.s.level x=lv at *
 go_enter Tryz.func27,Tryz.ntmps27
 go_wp2_with (first|((with_reducible refine Qc ?_);  ((with_reducible refine Za 3 ?_);refine bx hS rfl rfl rfl ?_;clear hS;intro X3 w hS;(try simp only [Act.eval,zD,zC,zA,zB,zJ,Value.cells] at hS);(try simp only [Act.put,zE,zF,zG])) ))
 have HAr:=HA.out.read
 obtain ⟨I1,_,lX,hS1,bX⟩:=hS.ice
 obtain ⟨I2,l2,lP,hS2,bP⟩:=hS1.ice
 have iX:I2.at X3 0=some (.int .i64 x):=PH.at_le l2 (PH.at_le lX (Qk rfl))
 obtain ⟨_,S,M,H,wv,r0,_,_,_,_,_,rS,_⟩:=HAr.le lP
 have HLv:=yH (fun (w':World) (h:I2.le (Qa w'))=>slevel_any (rS.le h) x)
 rw [hlev] at HLv
 clear lX l2 lP hS1 hS rS HAr
 by_cases hneg:lv<0
 · rw [if_pos hneg] at hm
   cases hm
   refine Qx [[],[0],[0,1],[0,1,2],[],[0,1,2,3,4],[0,1,2,3,4,5]] E I2 _
    [fun v _=>v=vPt D,fun v _=>v=vPt D,fun v _=>v=.pointer (some ⟨D,0,none⟩),fun v _=>v=vPt S,fun v _=>v=.int .i64 x,fun v _=>v=.int .i64 lv,fun v _=>v=.bool true] []
    (fun _ _ _ ns=>ns=ms) (by kernel_rfl) (by kernel_rfl) (by decide) hS2 rfl ?last (fun _ _ _ _ _ _ h=>h) (fun _ _ _ _ _ _ h=>h) ?plain ?step ?fin
   case last=>repeat (first|exact Lasting.nil|refine Lasting.cons (fun _ _ _ _ h=>h) ?_)
   case plain=>(repeat' (first|exact trivial|apply And.intro)) <;>  (refine .inr ?_;intro s vals J bs w hstop hg hJ hS hG;clear hG;simp only [zH,zI,Given,Facts] at hg;simp only [Qd,Qh,Qe,Qj,zH,zI,zA,zB,zK,if_true,Act.put,zE,zF,zG,hg];refine ⟨?_⟩;refine Qg (fun K hK=>?_);have HK:=yH hK;clear hK;rw [if_pos (by rfl)];(first|((with_reducible refine Qs ?_);first|((refine' Qq (v:=_) hS hJ ?ha rfl ?hc ?_);(case ha=>first|exact Qr|exact Qf);(case hc=>assumption)))|(go_wp2_with (first|(go_at_call 71;(with_reducible refine yI (HLv.out _ (PH.le.trans hJ hS.ile)) ?_);rintro e w2 ⟨rfl,rfl⟩))));refine HK.out _ _ ⟨rfl,J,PH.le.refl _,hS,?_⟩;clear HK;simp only [Facts];simp only [Qo,zH,zI,Act.put,zE,zF,zG,zD,zC,zA,zB,zJ])
   case step=>trivial
   case fin =>
    intro vals J9 bs w hJ hg hS hG
    have hG:bs=_:=hG
    subst hG
    have hS:=bX _ _ (bP _ _ (hS.less hJ))
    clear iX r0 hJ hS2 bX bP
    simp only [yB,yC,Nat.reduceAdd,Below_,Facts,zH,zI,true_and] at hg;simp only [yB,yC,Nat.reduceAdd,Qd,Qh,Qe,zA,zB,zK,if_true,Act.put,zE,zF,zG,hg];refine ⟨?_⟩
    clear hg
    go_wp2_with fail
    go_ret2
    exact ⟨rfl,p,HA.out,hS.drop⟩
 · refine Qx [[],[0],[0,1],[0,1,2],[],[0,1,2,3,4],[0,1,2,3,4,5]] E I2 _
     [fun v _=>v=vPt D,fun v _=>v=vPt D,fun v _=>v=.pointer (some ⟨D,0,none⟩),fun v _=>v=vPt S,fun v _=>v=.int .i64 x,fun v _=>v=.int .i64 lv,fun v _=>v=.bool false] []
     (fun _ _ _ ns=>ns=ms) (by kernel_rfl) (by kernel_rfl) (by decide) hS2 rfl ?last (fun _ _ _ _ _ _ h=>h) (fun _ _ _ _ _ _ h=>h) ?plain ?step ?fin
   case last=>repeat (first|exact Lasting.nil|refine Lasting.cons (fun _ _ _ _ h=>h) ?_)
   case plain=>(repeat' (first|exact trivial|apply And.intro)) <;>  (refine .inr ?_;intro s vals J bs w hstop hg hJ hS hG;clear hG;simp only [zH,zI,Given,Facts] at hg;simp only [Qd,Qh,Qe,Qj,zH,zI,zA,zB,zK,if_true,Act.put,zE,zF,zG,hg];refine ⟨?_⟩;refine Qg (fun K hK=>?_);have HK:=yH hK;clear hK;rw [if_pos (by rfl)];(first|((with_reducible refine Qs ?_);first|((refine' Qq (v:=_) hS hJ ?ha rfl ?hc ?_);(case ha=>first|exact Qr|exact Qf);(case hc=>assumption)))|(go_wp2_with (first|(go_at_call 71;(with_reducible refine yI (HLv.out _ (PH.le.trans hJ hS.ile)) ?_);rintro e w2 ⟨rfl,rfl⟩))));refine HK.out _ _ ⟨rfl,J,PH.le.refl _,hS,?_⟩;clear HK;simp only [Facts];simp only [Qo,zH,zI,Act.put,zE,zF,zG,zD,zC,zA,zB,zJ])
   case step=>trivial
   case fin =>
    intro vals J9 bs w hJ hg hS hG
    have hG:bs=_:=hG
    subst hG
    have hS:=bX _ _ (bP _ _ (hS.less hJ))
    have HN:=yH hneg
    clear iX r0 hJ hS2 bX bP hneg hlev
    simp only [yB,yC,Nat.reduceAdd,Below_,Facts,zH,zI,true_and] at hg;simp only [yB,yC,Nat.reduceAdd,Qd,Qh,Qe,zA,zB,zK,if_true,Act.put,zE,zF,zG,hg];refine ⟨?_⟩
    clear hg
    go_wp2_with (first|(go_at_call 60;(with_reducible refine yI (HD.out HN.out _ _ hS) ?_);clear hS;rintro e w ⟨rfl,p1,hA1,hS⟩;have HA1:=yH hA1;clear hA1))
    go_ret2
    exact ⟨rfl,p1,HA1.out,Sat.drop hS⟩
end
section
open Go.RowKit
end
section
open Go.RowKit
theorem MgAt.look {D:Nat} {m:G.Mg} {p:PH} (h:MgAt D m p):∃ H l clock,p.at D 2=some (.map (some H))∧p H=some (Qu ikey l clock)∧HsR l m.hs:=by
 obtain ⟨_,S,M,H,wv,h1,h2,h3,h4,h5,h6,h7,⟨l,clock,h8,hr⟩,h9⟩:=h.read
 exact ⟨H,l,clock,h3,h8,hr⟩
section
variable {E w:World} {I p:PH} {ms:List PH} {D:Nat} {m m':G.Mg}
theorem msame_any (f g:Int) (hM:MgR (Qa w) D m):Calls Tryz.prog 29 #[vPt D,.int .i64 f,.int .i64 g] w fun e w'=>e=.returned (.tuple #[.bool (m.same f g).1,nv (m.same f g).2])∧w=w':=by
 obtain ⟨h0,S,M,H,wv,h1,h2,h3,h4,h5,h6,h7,⟨l,clock,h8,hr⟩,h9⟩:=hM
 have hS:=Sat.start w
 have hq1:=hr.get f
 have hq2:=hr.get g
 have ho1:m.of f=(m.hs.find? fun p=>p.1 == f).map (·.2):=rfl
 have ho2:m.of g=(m.hs.find? fun p=>p.1 == g).map (·.2):=rfl
 rw [← ho1] at hq1
 rw [← ho2] at hq2
 have H2:=yH h8
 unfold G.Mg.same
 generalize m.of f=o1 at *
 generalize m.of g=o2 at *
 have Hq1:=yH hq1
 have Hq2:=yH hq2
 clear h1 h2 h4 h5 h6 h7 h8 h9 h0 hr hq1 hq2 ho1 ho2
 cases o1 with
 | none =>
   cases o2
   all_goals
    go_enter Tryz.func29,Tryz.ntmps29
    go_wp2_with (first|((with_reducible refine Zo ?_);first|(refine lk2 (x:=f) hS (.inl (PH.le.refl _)) H2.out kI Tryz.underlying115 Xu rfl rfl rfl rfl Hq1.out ?_)|(refine lk2 (x:=g) hS (.inl (PH.le.refl _)) H2.out kI Tryz.underlying115 Xu rfl rfl rfl rfl Hq2.out ?_);simp only [Option.map_none,Option.map_some,Option.getD_none,zJ,Option.isSome_none,Option.isSome_some];(try simp only [Act.put,zE,zF,zG]))|((with_reducible refine Qc ?_);  ((with_reducible refine Qb ?_);( ((refine' Ka (v:=_) hS rfl rfl ?ha rfl ?hb ?_);(case ha=>exact Yg);(case hb=>assumption)));(try simp only [Act.put,zE,zF,zG])) ))
    go_ret2
    exact ⟨rfl,rfl⟩
 | some a =>
   cases o2 with
   | none =>
     go_enter Tryz.func29,Tryz.ntmps29
     go_wp2_with (first|((with_reducible refine Zo ?_);first|(refine lk2 (x:=f) hS (.inl (PH.le.refl _)) H2.out kI Tryz.underlying115 Xu rfl rfl rfl rfl Hq1.out ?_)|(refine lk2 (x:=g) hS (.inl (PH.le.refl _)) H2.out kI Tryz.underlying115 Xu rfl rfl rfl rfl Hq2.out ?_);simp only [Option.map_none,Option.getD_none,Option.isSome_none];(try simp only [Act.put,zE,zF,zG]))|((with_reducible refine Qc ?_);first|((with_reducible refine Qp ?_);  ((with_reducible refine Qi ?hw ?_);case hw=>(simp only [Region.wanted,yielded,zC,zA,zB,zK,beq_self_eq_true];done)) )|((with_reducible refine Qb ?_);( ((refine' Ka (v:=_) hS rfl rfl ?ha rfl ?hb ?_);(case ha=>exact Yg);(case hb=>assumption)));(try simp only [Act.put,zE,zF,zG])) ))
     go_ret2
     exact ⟨rfl,rfl⟩
   | some b =>
     simp only
     have hab:(((a:Int) == (b:Int)))=(a == b):=by
      by_cases e:a=b
      · subst e;simp
      · rw [beq_eq_false_iff_ne.2 e];simp;omega
     generalize hz:(a == b)=z at *
     clear hz
     go_enter Tryz.func29,Tryz.ntmps29
     go_wp2_with (first|((with_reducible refine Zo ?_);first|(refine lk2 (x:=f) hS (.inl (PH.le.refl _)) H2.out kI Tryz.underlying115 Xu rfl rfl rfl rfl Hq1.out ?_)|(refine lk2 (x:=g) hS (.inl (PH.le.refl _)) H2.out kI Tryz.underlying115 Xu rfl rfl rfl rfl Hq2.out ?_);simp only [Option.map_some,zJ,Option.isSome_some];(try simp only [Act.put,zE,zF,zG]))|((with_reducible refine Qc ?_);first|((with_reducible refine Qp ?_);  ((with_reducible refine Qi ?hw ?_);case hw=>(simp only [Region.wanted,yielded,zC,zA,zB,zK,beq_self_eq_true];done)) )|((with_reducible refine Qb ?_);( ((refine' Ka (v:=_) hS rfl rfl ?ha rfl ?hb ?_);(case ha=>exact Yg);(case hb=>assumption)));(try simp only [Act.put,zE,zF,zG])) ))
     go_ret2
     exact ⟨rfl,rfl⟩
end
end
section
open Go.RowKit
def BoolR (I:PH) (v:Value) (l:List Bool):Prop:=(∃ A c,v=.slice A l.length c)∧(0<l.length→∃ X c,v=.slice (some ⟨X,0,none⟩) l.length c∧∀ (i:Nat) x,l[i]?=some x→I.at X i=some (.bool x))
theorem BoolR.le {I J:PH} {v:Value} {l:List Bool} (h:BoolR I v l) (hJ:I.le J):BoolR J v l:=⟨h.1,fun hl=>by
 obtain ⟨X,c,h1,h2⟩:=h.2 hl
 exact ⟨X,c,h1,fun i x hx=>PH.at_le hJ (h2 i x hx)⟩⟩
end
end Go.Proofs.YtidamcdklgfogaaGreat
