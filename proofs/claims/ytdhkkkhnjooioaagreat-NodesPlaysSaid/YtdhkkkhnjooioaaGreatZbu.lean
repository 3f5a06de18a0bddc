import Derived.Test.YtdhkkkhnjooioaaGreatZbt
set_option linter.unusedSimpArgs false
set_option linter.unusedVariables false
namespace Go.Proofs.YtdhkkkhnjooioaaGreat.G
structure PS (n b i:Nat) (s:St) (l:List Tb) (h:List Nat) (ks:List (Nat × Tb)):Prop where
 ok:StOk i s
 rel:Rel s l h
 kn:∀ k ∈ ks,Kn s k.1 k.2
 cnt:∃ H:List Tb,H.length≤i∧∀ z,0<heldT l h z→z ∈ H
 few:l.length≤32 * i
 len:s.vars.length=n
 room:s.pl.room=b
 con:∃ k ∈ ks,∀ v,hangsT k.2 v=false
variable {n b i B:Nat} {s s':St} {l:List Tb} {h:List Nat} {ks:List (Nat × Tb)}
theorem PS.pos (p:PS n b i s l h ks):0<ks.length:=by
 obtain ⟨k,hk,_⟩:=p.con
 exact List.length_pos_of_mem hk
theorem PS.get (p:PS n b i s l h ks) (q:Nat):∃ F X,ks[q % ks.length]?=some (F,X)∧Kn s F X:=by
 have hlt:=Nat.mod_lt q p.pos
 have h1:=List.getElem?_eq_getElem hlt
 exact ⟨_,_,h1,p.kn _ (List.getElem_mem hlt)⟩
theorem heldT_set {z x:Tb} {c:Nat} (hlen:h.length=l.length) (hx:x ∈ l) (hz:z≠x):heldT l (h.set (l.idxOf x) c) z=heldT l h z:=by
 unfold heldT
 have hne:l.idxOf x≠l.idxOf z:=fun e=>by
  have hxl:=List.idxOf_lt_length_iff.2 hx
  have hzl:l.idxOf z<l.length:=by rw [← e];exact hxl
  have e1:=List.getElem_idxOf hxl
  have e2:=List.getElem_idxOf hzl
  simp only [← e] at e2
  exact hz (e2.symm.trans e1)
 rw [List.getD_eq_getElem?_getD,List.getElem?_set_ne hne,← List.getD_eq_getElem?_getD]
theorem heldT_snoc {z x:Tb} (hlen:h.length=l.length) (hz:0<heldT (l ++ [x]) (h ++ [0]) z):0<heldT l h z:=by
 unfold heldT at hz ⊢
 rw [List.idxOf_append] at hz
 split at hz
 · have hl:=List.idxOf_lt_length_iff.2 (by assumption)
   rw [List.getD_eq_getElem?_getD,List.getElem?_append_left (by rw [hlen];exact hl),← List.getD_eq_getElem?_getD] at hz
   exact hz
 · exfalso
   rw [List.getD_eq_getElem?_getD,List.getElem?_append_right (by omega)] at hz
   cases hq:[0][List.idxOf z [x]+l.length - h.length]? with
   | none=>rw [hq] at hz;exact absurd hz (by decide)
   | some q =>
     rw [hq] at hz
     have hm:=List.mem_of_getElem? hq
     rw [List.mem_singleton] at hm
     subst hm
     exact absurd hz (by decide)
theorem PS.same (p:PS n b i s l h ks):PS n b (i+1) s l h ks:=by
 obtain ⟨H,h1,h2⟩:=p.cnt
 exact ⟨p.ok.mono (by omega),p.rel,p.kn,⟨H,by omega,h2⟩,by have:=p.few;omega,p.len,p.room,p.con⟩
theorem PS.not (p:PS n b i s l h ks) {F:Nat} {X:Tb} (k:Kn s F X):PS n b (i+1) s l h (ks ++ [(flip F,notT X)]):=by
 have q:=p.same
 refine ⟨q.ok,q.rel,fun k' hk'=>?_,q.cnt,q.few,q.len,q.room,?_⟩
 · rcases List.mem_append.1 hk' with h1|h1
   · exact p.kn k' h1
   · rw [List.mem_singleton.1 h1]
     exact ⟨(val_flipIf (b:=true)).2 k.v,by rw [tb_flip,k.t]⟩
 · obtain ⟨k',h1,h2⟩:=p.con
   exact ⟨k',List.mem_append_left _ h1,h2⟩
theorem PS.hold (p:PS n b i s l h ks) (hi:i<1000) {F:Nat} {X:Tb} (k:Kn s F X):∃ s',s.hold (F:Int)=some (s',0)∧s'.vars=s.vars∧PS n b (i+1) s' l (if normT X ∈ l then h.set (l.idxOf (normT X)) (heldT l h (normT X)+1) else h) ks:=by
 obtain ⟨s',h1,h2,h3,h4,h5,h6⟩:=hold_rel p.ok (by omega) p.rel k
 refine ⟨s',h1,h3,h2,h6,fun k' hk'=>h5 _ _ (p.kn k' hk'),?_,by have:=p.few;omega,by rw [h3];exact p.len,h4.trans p.room,p.con⟩
 obtain ⟨H,g1,g2⟩:=p.cnt
 refine ⟨normT X::H,by simp;omega,fun z hz=>?_⟩
 by_cases e:z=normT X
 · rw [e];exact .head _
 · refine .tail _ (g2 z ?_)
   split at hz
   · rwa [heldT_set p.rel.len (by assumption) e] at hz
   · exact hz
theorem PS.drop (p:PS n b i s l h ks) {F:Nat} {X:Tb} (k:Kn s F X):∃ s' e h',s.drop (F:Int)=some (s',e)∧s'.vars=s.vars∧PS n b (i+1) s' l h' ks ∧
 ((normT X ∉ l∧h'=h∧e=0)∨(normT X ∈ l∧heldT l h (normT X)=0∧h'=h∧e=5)∨(normT X ∈ l∧0<heldT l h (normT X)∧e=0∧h'=h.set (l.idxOf (normT X)) (heldT l h (normT X) - 1))):=by
 obtain ⟨s',e,h1,h2,h3,h4,h5,h6⟩:=drop_rel p.ok p.rel k
 obtain ⟨H,g1,g2⟩:=p.cnt
 have hok:StOk (i+1) s':=h2.mono (by omega)
 have hkn:∀ k ∈ ks,Kn s' k.1 k.2:=fun k' hk'=>h5 _ _ (p.kn k' hk')
 have hf:=p.few
 rcases h6 with ⟨a1,a2,a3⟩|⟨a1,a2,a3,a4⟩|⟨a1,a2,a3,a4⟩
 · subst a2
   exact ⟨s',e,h,h1,h3,p.same,.inl ⟨a1,rfl,a3⟩⟩
 · subst a3
   exact ⟨s',e,h,h1,h3,p.same,.inr (.inl ⟨a1,a2,rfl,a4⟩)⟩
 · refine ⟨s',e,_,h1,h3,⟨hok,a4,hkn,⟨H,by omega,fun z hz=>?_⟩,by omega,by rw [h3];exact p.len,h4.trans p.room,p.con⟩,.inr (.inr ⟨a1,a2,a3,rfl⟩)⟩
   by_cases e:z=normT X
   · rw [e];exact g2 _ a2
   · rw [heldT_set p.rel.len a1 e] at hz
     exact g2 z hz
theorem PS.refs (p:PS n b i s l h ks) (z:Tb):heldT l h z≤i:=by
 rcases Nat.eq_zero_or_pos (heldT l h z) with h0|h0
 · omega
 · obtain ⟨j,nd,h1,rfl⟩:=p.rel.hok.pos z h0
   rw [p.rel.held j nd h1]
   exact p.ok.refs j nd h1
theorem top_none {o:List Nat} {X:Tb} (h:∀ v,hangsT X v=false):topT o X=none:=List.find?_eq_none.2 fun v _=>by rw [h v];decide
theorem PS.keepcon (p:PS n b i s l h ks) (q:Nat × Tb→Bool) (hq:∀ k,(∀ v,hangsT k.2 v=false)→q k=true):∃ k ∈ ks.filter q,∀ v,hangsT k.2 v=false:=by
 obtain ⟨k,h1,h2⟩:=p.con
 exact ⟨k,List.mem_filter.2 ⟨h1,hq k h2⟩,h2⟩
theorem cntA_few {H:List Tb} (hd:l.Nodup) (hH:∀ z,0<heldT l h z→z ∈ H) (hn:s.vars.length≤4) (hHl:H.length≤i):(cntA s l h).length≤32 * i:=by
 have h1:=cntU_bound (k:=s.vars.length+1) (o:=s.vars) (h:=h) hd hH
 have h2:2 ^ (s.vars.length+1)≤32:=Nat.le_trans (Nat.pow_le_pow_right (show (2:Nat) > 0 by decide) (show s.vars.length+1≤5 by omega)) (by decide)
 exact Nat.le_trans h1 (Nat.mul_le_mul h2 hHl)
theorem heldT_cl {cl:List Tb} (hd:cl.Nodup) {H:List Tb} (hH:∀ z,0<heldT l h z→z ∈ H) (z:Tb) (hz:0<heldT cl (cl.map (heldT l h)) z):z ∈ H:=by
 have hm:=heldT_mem (List.length_map _) hz
 rw [heldT_map hd hm] at hz
 exact hH z hz
theorem PS.coll (p:PS n b i s l h ks) (hn:n≤4):∃ s',s.collect=some (s',s.dead)∧s'.vars=s.vars∧(cntA s l h).length+s.dead=l.length ∧
 PS n b (i+1) s' (cntA s l h) ((cntA s l h).map (heldT l h)) (ks.filter fun k=>decide (topT s'.vars k.2=none∨normT k.2 ∈ cntA s' (cntA s l h) ((cntA s l h).map (heldT l h)))):=by
 obtain ⟨s',h1,c⟩:=p.ok.collect
 have hr:=p.rel.hok.coll p.ok c
 have hlive:=p.rel.hok.live p.ok
 rw [← p.rel.many p.ok] at hlive
 obtain ⟨H,g1,g2⟩:=p.cnt
 have hd:=p.rel.hok.nodupA p.ok
 refine ⟨s',h1,c.vars,hlive,c.ok.mono (by omega),hr,fun k hk=>?_,⟨H,by omega,heldT_cl hd g2⟩,?_,by rw [c.vars];exact p.len,c.room.trans p.room,p.keepcon _ fun k hk=>decide_eq_true (.inl (top_none hk))⟩
 · obtain ⟨m1,m2⟩:=List.mem_filter.1 hk
   have m3:=of_decide_eq_true m2
   exact (p.kn k m1).coll p.ok c hr.hok m3
 · have:=cntA_few (s:=s) (i:=i) p.rel.nodup g2 (by rw [p.len];exact hn) g1
   omega
theorem PS.swap (p:PS n b i s l h ks) (hn:n≤4) (hi:i<1000) {k:Nat} (hk:k+1<n):∃ s',s'.dead=0∧(cntA s' l h).length=many s'.pl.slots ∧
 PS n b (i+1) s' (cntA s' l h) ((cntA s' l h).map (heldT l h)) ((ks.filter fun k=>decide (topT s.vars k.2=none∨normT k.2 ∈ cntA s l h)).filter fun k=>decide (topT s'.vars k.2=none∨normT k.2 ∈ cntA s' (cntA s' l h) ((cntA s' l h).map (heldT l h)))) ∧
 ((s.swap k=some (s',7)∧s'.vars=s.vars∧b<3 * (cntA s' l h).length)∨(s.swap k=some (s',0)∧s'.vars=(s.vars.set k (s.vars.getD (k+1) 0)).set (k+1) (s.vars.getD k 0))):=by
 obtain ⟨s',g1,g2,g3,g4,g5,g6,g7⟩:=swap_rel p.ok (by omega) p.rel (k:=k) (by rw [p.len];exact hk)
 have hvl:s'.vars.length=s.vars.length:=by
  rcases g7 with ⟨_,e,_⟩|⟨_,e⟩
  · rw [e]
  · rw [e];simp
 obtain ⟨H,e1,e2⟩:=p.cnt
 refine ⟨s',g2,g5,⟨g1.mono (by omega),g4,fun k' hk'=>?_,⟨H,by omega,heldT_cl g4.nodup e2⟩,?_,hvl.trans p.len,g3.trans p.room,?_⟩,?_⟩
 · obtain ⟨m1,m2⟩:=List.mem_filter.1 hk'
   obtain ⟨m3,m4⟩:=List.mem_filter.1 m1
   have m5:=of_decide_eq_true m4
   have m6:=of_decide_eq_true m2
   exact g6 _ _ (p.kn k' m3) m5 m6
 · have:=cntA_few (s:=s') (i:=i) p.rel.nodup e2 (by rw [hvl,p.len];exact hn) e1
   omega
 · obtain ⟨k',m1,m2⟩:=p.con
   exact ⟨k',List.mem_filter.2 ⟨List.mem_filter.2 ⟨m1,decide_eq_true (.inl (top_none m2))⟩,decide_eq_true (.inl (top_none m2))⟩,m2⟩
 · rw [← p.room]
   exact g7
theorem PS.make (p:PS n b i s l h ks) {f g:Nat} {X Y:Tb} (kf:Kn s f X) (kg:Kn s g Y) (v:Int):∃ s' rr e,s.mkE v f g=some (s',rr,e)∧s'.vars=s.vars ∧
 ((e=9∧rr=0∧s'=s∧s.level v<0)∨∃ m:Nat,v=(m:Int)∧m<n ∧
   ((e=10∧rr=0∧s'=s∧¬ (lvf s m<rkT s.vars X∧lvf s m<rkT s.vars Y))∨(lvf s m<rkT s.vars X∧lvf s m<rkT s.vars Y ∧
     ((e=0∧(X=Y∨normT (joinT m X Y) ∈ l)∧PS n b (i+1) s' l h (ks ++ [(rr,joinT m X Y)]))∨(¬ (X=Y∨normT (joinT m X Y) ∈ l) ∧
       ((e=7∧rr=0∧s'=s∧b≤l.length)∨(e=0∧l.length<b∧PS n b (i+1) s' (l ++ [normT (joinT m X Y)]) (h ++ [0]) (ks ++ [(rr,joinT m X Y)])))))))):=by
 obtain ⟨s',rr,e,h1,h2,h3,h4,h5,h6⟩:=mk_rel p.ok p.rel kf kg v
 refine ⟨s',rr,e,h1,h3,?_⟩
 have hcon:∃ k ∈ ks ++ [(rr,joinT v.toNat X Y)],∀ v,hangsT k.2 v=false:=by
  obtain ⟨k',m1,m2⟩:=p.con
  exact ⟨k',List.mem_append_left _ m1,m2⟩
 rcases h6 with h6|⟨m,rfl,hm,h6⟩
 · exact .inl h6
 refine .inr ⟨m,rfl,by rw [← p.len];exact hm,?_⟩
 rcases h6 with h6|⟨g1,g2,h6⟩
 · exact .inl h6
 refine .inr ⟨g1,g2,?_⟩
 have hks:Kn s' rr (joinT m X Y)→∀ k ∈ ks ++ [(rr,joinT m X Y)],Kn s' k.1 k.2:=fun hk k hk'=>by
  rcases List.mem_append.1 hk' with m1|m1
  · exact h5 _ _ (p.kn k m1)
  · rw [List.mem_singleton.1 m1];exact hk
 have hf:=p.few
 obtain ⟨H,c1,c2⟩:=p.cnt
 rcases h6 with ⟨a1,a2,a3,a4⟩|⟨a0,⟨a1,a2,a3,a4⟩|⟨a1,a2,a3,a4⟩⟩
 · subst a2
   exact .inl ⟨a1,a4,h2.mono (by omega),p.rel,hks a3,⟨H,by omega,c2⟩,by omega,p.len,p.room,hcon⟩
 · exact .inr ⟨a0,.inl ⟨a1,a2,a3,by rw [← p.room];exact a4⟩⟩
 · refine .inr ⟨a0,.inr ⟨a1,by rw [← p.room];exact a2,h2.mono (by omega),a3,hks a4,⟨H,by omega,fun z hz=>c2 z (heldT_snoc p.rel.len hz)⟩,?_,by rw [h3];exact p.len,h4.trans p.room,hcon⟩⟩
   rw [List.length_append,List.length_singleton]
   omega
end Go.Proofs.YtdhkkkhnjooioaaGreat.G
namespace Go.Proofs.YtdhkkkhnjooioaaGreat
open Go.RowKit
def DoOk (n b S kd qa qb:Nat) (v:Int) (s:G.St) (l:List G.Tb) (h:List Nat) (ks:List (Nat × G.Tb)) (s':G.St) (l':List G.Tb) (h':List Nat) (ks':List (Nat × G.Tb)):Prop :=
 ∀ (E w:World) (I m mk:PH) (ms:List PH) (ov lv hv kv:Value),StAt S s m→RowsR I lv l→NumR I hv h→NumR I ov s.vars→KnAt I mk kv ks→Sat E I (m::mk::ms) w →
   Calls Tryz.prog 8 #[vPt S,.agg #[nv n,nv b,ov,lv,hv],kv,.agg #[.int .u8 (kd:Int),.int .u8 (qa:Int),.int .u8 (qb:Int),.int .i64 v]] w fun e w' =>
    ∃ ov' lv' hv' kv' J m' mk',e=.returned (.tuple #[.agg #[nv n,nv b,ov',lv',hv'],kv',.bool true])∧I.le J∧RowsR J lv' l'∧NumR J hv' h'∧NumR J ov' s'.vars∧KnAt J mk' kv' ks'∧StAt S s' m'∧Sat E J (m'::mk'::ms) w'
section
variable {n b i S kd qa qb:Nat} {v:Int} {s:G.St} {l:List G.Tb} {h:List Nat} {ks:List (Nat × G.Tb)}
theorem len16 {n:Nat} {X:G.Tb} (hn:n≤4) (hX:G.IsT n X):X.length≤16:=by
 rw [show X.length=2 ^ n from hX]
 exact Nat.le_trans (Nat.pow_le_pow_right (show (2:Nat) > 0 by decide) hn) (by decide)
theorem dk_not (hn:n≤4) (p:G.PS n b i s l h ks) (hkl:ks.length≤100) (hkd:kd<256∧kd % 9=8) (hqa:qa<256) (hqb:qb<256) :
 ∃ s' l' h' ks',G.PS n b (i+1) s' l' h' ks'∧ks'.length≤ks.length+1∧DoOk n b S kd qa qb v s l h ks s' l' h' ks':=by
 obtain ⟨F,X,hx,kx⟩:=p.get qa
 obtain ⟨G',Y,hy,ky⟩:=p.get qb
 refine ⟨s,l,h,_,p.not kx,by simp,fun E w I m mk ms ov lv hv kv hA hl hh hoo hk hS=>?_⟩
 have hF:=p.ok.val_lt kx.v
 have hX:X.length≤16:=len16 hn (p.len ▸ kx.isT)
 refine (do_not (s:=s) (s':=s) hl hh hoo hk ⟨p.pos,hkl⟩ hqa hqb hx hy hkd (by show F<_;omega) (by show X.length≤_;omega) hS).mono ?_
 rintro e w' ⟨kv',J,mk',rfl,hJ,h1,h2⟩
 exact ⟨_,_,_,_,J,m,mk',rfl,hJ,hl.le hJ,hh.le hJ,hoo.le hJ,h1,hA,h2⟩
theorem dk_hold (hn:n≤4) (hi:i<1000) (p:G.PS n b i s l h ks) (hlb:l.length≤1500) (hkl:ks.length≤100) (hkd:kd<256∧kd % 9=4) (hqa:qa<256) (hqb:qb<256) :
 ∃ s' l' h' ks',G.PS n b (i+1) s' l' h' ks'∧ks'.length≤ks.length+1∧DoOk n b S kd qa qb v s l h ks s' l' h' ks':=by
 obtain ⟨F,X,hx,kx⟩:=p.get qa
 obtain ⟨G',Y,hy,ky⟩:=p.get qb
 obtain ⟨s',hm,hv',hp⟩:=p.hold hi kx
 refine ⟨s',l,_,ks,hp,by omega,fun E w I m mk ms ov lv hv kv hA hl hh hoo hk hS=>?_⟩
 have hF:=p.ok.val_lt kx.v
 have hXn:G.IsT n X:=p.len ▸ kx.isT
 have hlT:∀ y ∈ l,y.length≤4096:=fun y hy=>by have:=len16 hn (p.len ▸ p.rel.isT y hy);omega
 have hrf:=p.refs (G.normT X)
 obtain ⟨⟨oA,oC,rfl⟩,_⟩:=And.intro hoo.1 trivial
 refine (do_hold (s:=s) hl hh hoo hk ⟨p.pos,hkl⟩ hqa hqb hx hy hkd (by show F<_;omega) (er:=0) (h':=if G.normT X ∈ l then h.set (l.idxOf (G.normT X)) (G.heldT l h (G.normT X)+1) else h) (fun w' ms' J x hJ hbx h9=>?_) (fun w' ms' J h9=>shold_any hm (by show (F:Int)<_;omega) hA h9) hS).mono ?_
 · by_cases hmem:G.normT X ∈ l
   · rw [if_pos hmem]
     refine (rcount_add (hl.le hJ) (hh.le hJ) p.rel.len hlT hbx hXn (by omega) (by omega) (q:=G.heldT l h (G.normT X)) (q':=G.heldT l h (G.normT X)+1) hmem rfl (by omega) (by omega) (by omega) h9).mono ?_
     rintro e w2 ⟨hv2,K,rfl,hK,h1,h2⟩
     have h3:=h1
     obtain ⟨⟨B',d',rfl⟩,_⟩:=h3
     exact ⟨B',_,d',K,rfl,hK,h1,h2⟩
   · rw [if_neg hmem]
     obtain ⟨⟨B',d',rfl⟩,_⟩:=And.intro hh.1 trivial
     refine (rcount_no (hl.le hJ) (hh.le hJ) p.rel.len hlT hbx hXn (by omega) (by omega) hmem h9).mono ?_
     rintro e w2 ⟨rfl,h2⟩
     exact ⟨B',_,d',J,rfl,PH.le.refl _,hh.le hJ,h2⟩
 · rintro e w' ⟨hv2,J,m',rfl,hJ,h1,h2,h3⟩
   exact ⟨_,_,_,_,J,m',mk,rfl,hJ,hl.le hJ,h1,by rw [hv'];exact hoo.le hJ,hk.le hJ,h2,h3⟩
theorem dk_drop (hn:n≤4) (hi:i<1000) (p:G.PS n b i s l h ks) (hlb:l.length≤1500) (hkl:ks.length≤100) (hkd:kd<256∧kd % 9=5) (hqa:qa<256) (hqb:qb<256) :
 ∃ s' l' h' ks',G.PS n b (i+1) s' l' h' ks'∧ks'.length≤ks.length+1∧DoOk n b S kd qa qb v s l h ks s' l' h' ks':=by
 obtain ⟨F,X,hx,kx⟩:=p.get qa
 obtain ⟨G',Y,hy,ky⟩:=p.get qb
 obtain ⟨s',er,h',hm,hv',hp,hc⟩:=p.drop kx
 refine ⟨s',l,h',ks,hp,by omega,fun E w I m mk ms ov lv hv kv hA hl hh hoo hk hS=>?_⟩
 have hF:=p.ok.val_lt kx.v
 have hXn:G.IsT n X:=p.len ▸ kx.isT
 have hlT:∀ y ∈ l,y.length≤4096:=fun y hy=>by have:=len16 hn (p.len ▸ p.rel.isT y hy);omega
 have hrf:=p.refs (G.normT X)
 have ho:=p.ok.pm.ordr
 obtain ⟨⟨oA,oC,rfl⟩,_⟩:=And.intro hoo.1 trivial
 refine (do_drop (s:=s) hl hh hoo hk ⟨p.pos,hkl⟩ hqa hqb hx hy hkd (er:=er) (h':=h') (tp:=G.topI (G.topT s.vars X)) (fun ht=>?_) (fun w' ms' J x hJ hbx h9=>?_) (fun w' ms' J x hJ hbx h9=>rtop_any (n:=n) (hoo.le hJ) hbx hXn (by rw [← p.len];exact ho.lt) (by rw [p.len];omega) (by omega) h9) (fun w' ms' J h9=>sdrop_any hm (by show (F:Int)<_;omega) hA h9) hS).mono ?_
 · have hnone:G.topT s.vars X=none:=by
    cases hq:G.topT s.vars X with
    | none=>rfl
    | some u=>rw [hq] at ht;exact absurd ht (by show ¬ ((u:Int)<0);omega)
   have h0:=(kx.topnone p.ok).1 hnone
   have hnm:G.normT X ∉ l:=fun hmem=>(kx.mem p.ok p.rel).1 hmem h0
   rcases hc with ⟨_,_,e⟩|⟨hmem,_⟩|⟨hmem,_⟩
   · exact e
   · exact absurd hmem hnm
   · exact absurd hmem hnm
 · rcases hc with ⟨hmem,rfl,rfl⟩|⟨hmem,hz,rfl,rfl⟩|⟨hmem,hz,rfl,rfl⟩
   · obtain ⟨⟨B',d',rfl⟩,_⟩:=And.intro hh.1 trivial
     refine (rcount_no (hl.le hJ) (hh.le hJ) p.rel.len hlT hbx hXn (by omega) (by omega) hmem h9).mono ?_
     rintro e w2 ⟨rfl,h2⟩
     exact ⟨B',_,d',J,rfl,PH.le.refl _,hh.le hJ,h2⟩
   · obtain ⟨⟨B',d',rfl⟩,_⟩:=And.intro hh.1 trivial
     refine (rcount_neg (hl.le hJ) (hh.le hJ) p.rel.len hlT hbx hXn (by omega) (by omega) hmem hz rfl h9).mono ?_
     rintro e w2 ⟨rfl,h2⟩
     exact ⟨B',_,d',J,rfl,PH.le.refl _,hh.le hJ,h2⟩
   · refine (rcount_add (hl.le hJ) (hh.le hJ) p.rel.len hlT hbx hXn (by omega) (by omega) (q:=G.heldT l h (G.normT X)) (q':=G.heldT l h (G.normT X) - 1) hmem rfl (by omega) (by omega) (by omega) h9).mono ?_
     rintro e w2 ⟨hv2,K,rfl,hK,h1,h2⟩
     have h3:=h1
     obtain ⟨⟨B',d',rfl⟩,_⟩:=h3
     exact ⟨B',_,d',K,rfl,hK,h1,h2⟩
 · rintro e w' ⟨hv2,J,m',rfl,hJ,h1,h2,h3⟩
   exact ⟨_,_,_,_,J,m',mk,rfl,hJ,hl.le hJ,h1,by rw [hv'];exact hoo.le hJ,hk.le hJ,h2,h3⟩
end
end Go.Proofs.YtdhkkkhnjooioaaGreat
