import Derived.Test.YtdhkkkhnjooioaaGreatZbc
set_option linter.unusedSimpArgs false
set_option linter.unusedVariables false
namespace Go.Proofs.YtdhkkkhnjooioaaGreat.G
variable {B:Nat} {s s':St}
def heldT (l:List Tb) (h:List Nat) (z:Tb):Nat:=h.getD (l.idxOf z) 0
theorem idx_nodup {l:List Tb} (hd:l.Nodup) {k:Nat} {z:Tb} (hk:l[k]?=some z):l.idxOf z=k:=by
 induction l generalizing k with
 | nil=>simp at hk
 | cons y l ih =>
   rw [List.nodup_cons] at hd
   rw [List.idxOf_cons]
   cases k with
   | zero =>
     simp only [List.getElem?_cons_zero,Option.some.injEq] at hk
     rw [hk];simp
   | succ k =>
     rw [List.getElem?_cons_succ] at hk
     have hne:¬ y=z:=fun e=>hd.1 (by rw [e];exact List.mem_of_getElem? hk)
     have:(y == z)=false:=by simpa using hne
     rw [this]
     simp only [cond_false]
     rw [ih hd.2 hk]
theorem heldT_get {l:List Tb} {h:List Nat} (hd:l.Nodup) {k:Nat} {z:Tb} (hk:l[k]?=some z):heldT l h z=h.getD k 0:=by unfold heldT;rw [idx_nodup hd hk]
theorem heldT_not {l:List Tb} {h:List Nat} (hl:h.length=l.length) {z:Tb} (hz:z ∉ l):heldT l h z=0:=by
 unfold heldT
 rw [List.idxOf_eq_length hz,List.getD_eq_getElem?_getD,List.getElem?_eq_none (by omega)]
 rfl
theorem heldT_mem {l:List Tb} {h:List Nat} (hl:h.length=l.length) {z:Tb} (hz:0<heldT l h z):z ∈ l:=Classical.byContradiction fun hn=>by rw [heldT_not hl hn] at hz;cases hz
def cntU (k:Nat) (o:List Nat) (l:List Tb) (h:List Nat):Nat→List Tb
 | 0=>[]
 | i+1=>if 0<h.getD i 0 then belowT k o (l.getD i []) (cntU k o l h i) else cntU k o l h i
theorem cntU_ok {n k:Nat} {o:List Nat} {l:List Tb} {h:List Nat} (ho:Ordr n o) (hT:∀ y ∈ l,IsT n y) (hk:o.length<k):∀ i,i≤l.length →
 (cntU k o l h i).Nodup∧∀ z,z ∈ cntU k o l h i↔∃ j y,j<i∧0<h.getD j 0∧l[j]?=some y∧Sr o y z
 | 0,_=>⟨List.nodup_nil,fun z=>⟨fun h=>(by cases h),fun ⟨j,_,hj,_⟩=>absurd hj (Nat.not_lt_zero _)⟩⟩
 | i+1,hi=>by
   obtain ⟨h1,h2⟩:=cntU_ok (h:=h) ho hT hk i (by omega)
   have hy:l[i]?=some (l.getD i []):=by rw [List.getD_eq_getElem?_getD,List.getElem?_eq_getElem (by omega)];rfl
   unfold cntU
   by_cases hc:0<h.getD i 0
   · rw [if_pos hc]
     generalize hx:l.getD i []=x at *
     have hxT:=hT x (List.mem_of_getElem? hy)
     have hclo:Clo n o (rkT o x) (cntU k o l h i):=fun y hy' _ z hz=>by
      obtain ⟨j,y0,hj,hc',hl',hs⟩:=(h2 y).1 hy'
      exact (h2 z).2 ⟨j,y0,hj,hc',hl',hs.trans ho (hT y0 (List.mem_of_getElem? hl')) hz⟩
     obtain ⟨g1,g2,_⟩:=belowT_ok ho k x (cntU k o l h i) hxT (fun y hy'=>by
      obtain ⟨j,y0,_,_,hl',hs⟩:=(h2 y).1 hy'
      exact (hs.lift ho (hT y0 (List.mem_of_getElem? hl'))).1) h1 hclo (by omega)
     refine ⟨g1,fun z=>(g2 z).trans ⟨?_,?_⟩⟩
     · rintro (h3|h3)
       · obtain ⟨j,y,hj,r⟩:=(h2 z).1 h3
         exact ⟨j,y,by omega,r⟩
       · exact ⟨i,x,by omega,hc,hy,h3⟩
     · rintro ⟨j,y,hj,h4,h5,h6⟩
       by_cases hji:j=i
       · subst hji
         rw [hy] at h5
         cases h5
         exact .inr h6
       · exact .inl ((h2 z).2 ⟨j,y,by omega,h4,h5,h6⟩)
   · rw [if_neg hc]
     refine ⟨h1,fun z=>(h2 z).trans ⟨fun ⟨j,y,hj,r⟩=>⟨j,y,by omega,r⟩,fun ⟨j,y,hj,h4,r⟩=>⟨j,y,?_,h4,r⟩⟩⟩
     have:j≠i:=fun e=>hc (e ▸ h4)
     omega
theorem cntU_T {n k:Nat} {o:List Nat} {l:List Tb} {h:List Nat} (ho:Ordr n o) (hT:∀ y ∈ l,IsT n y) (hk:o.length<k) (i:Nat) (hi:i≤l.length):∀ z ∈ cntU k o l h i,IsT n z:=fun z hz=>by
 obtain ⟨j,y,_,_,hl,hs⟩:=((cntU_ok (h:=h) ho hT hk i hi).2 z).1 hz
 exact (hs.lift ho (hT y (List.mem_of_getElem? hl))).1
theorem cntU_len {k:Nat} {o:List Nat} {l:List Tb} {h:List Nat}:∀ i,(cntU k o l h i).length≤2 ^ k * ((List.range i).filter fun j=>decide (0<h.getD j 0)).length
 | 0=>Nat.zero_le _
 | i+1=>by
   have ih:=cntU_len (k:=k) (o:=o) (l:=l) (h:=h) i
   rw [List.range_succ,List.filter_append,List.length_append]
   unfold cntU
   by_cases hc:0<h.getD i 0
   · rw [if_pos hc]
     have h1:=belowT_len k o (l.getD i []) (cntU k o l h i)
     have h2:(List.filter (fun j=>decide (0<h.getD j 0)) [i]).length=1:=by rw [List.filter_cons_of_pos (p:=fun j=>decide (0<h.getD j 0)) (decide_eq_true hc)];rfl
     rw [h2,Nat.mul_add]
     omega
   · rw [if_neg hc]
     rw [Nat.mul_add]
     omega
theorem cntU_bound {k:Nat} {o:List Nat} {l H:List Tb} {h:List Nat} (hd:l.Nodup) (hH:∀ z,0<heldT l h z→z ∈ H):(cntU k o l h l.length).length≤2 ^ k * H.length:=by
 refine Nat.le_trans (cntU_len _) (Nat.mul_le_mul_left _ ?_)
 have hnd:(((List.range l.length).filter fun j=>decide (0<h.getD j 0)).map fun j=>l.getD j []).Nodup:=by
  refine nodup_map_on (List.Nodup.sublist List.filter_sublist List.nodup_range) fun a ha b hb e=>?_
  have h1:=List.mem_range.1 (List.mem_filter.1 ha).1
  have h2:=List.mem_range.1 (List.mem_filter.1 hb).1
  have e1:l[a]?=some (l.getD a []):=by rw [List.getD_eq_getElem?_getD,List.getElem?_eq_getElem h1];rfl
  have e2:l[b]?=some (l.getD b []):=by rw [List.getD_eq_getElem?_getD,List.getElem?_eq_getElem h2];rfl
  rw [← idx_nodup hd e1,← idx_nodup hd e2,e]
 have:=nodup_sub (m:=H) hnd fun z hz=>by
  obtain ⟨j,hj,rfl⟩:=List.mem_map.1 hz
  obtain ⟨h1,h2⟩:=List.mem_filter.1 hj
  have h1:=List.mem_range.1 h1
  have e1:l[j]?=some (l.getD j []):=by rw [List.getD_eq_getElem?_getD,List.getElem?_eq_getElem h1];rfl
  exact hH _ (by rw [heldT_get hd e1];simpa using h2)
 rwa [List.length_map] at this
structure Rel (s:St) (l:List Tb) (h:List Nat):Prop where
 nodup:l.Nodup
 len:h.length=l.length
 mem:∀ z,z ∈ l↔∃ j n,s.nd j=some n∧z=s.tb (2 * j)
 held:∀ j n,s.nd j=some n→heldT l h (s.tb (2 * j))=n.refs
structure HOk (s:St) (l:List Tb) (h:List Nat):Prop where
 nodup:l.Nodup
 len:h.length=l.length
 isT:∀ y ∈ l,IsT s.vars.length y
 held:∀ j n,s.nd j=some n→heldT l h (s.tb (2 * j))=n.refs
 pos:∀ z,0<heldT l h z→∃ j n,s.nd j=some n∧z=s.tb (2 * j)
theorem Rel.isT {l:List Tb} {h:List Nat} (r:Rel s l h):∀ y ∈ l,IsT s.vars.length y:=fun y hy=>by
 obtain ⟨j,n,_,rfl⟩:=(r.mem y).1 hy
 exact isT_tb _ _
theorem Rel.hok {l:List Tb} {h:List Nat} (r:Rel s l h):HOk s l h:=⟨r.nodup,r.len,r.isT,r.held,fun z hz=>(r.mem z).1 (heldT_mem r.len hz)⟩
theorem refsf_some {G:Gr} {i:Nat} {n:Nd} (h:G i=some n):refsf G i=(n.refs:Int):=by unfold refsf;rw [h]
theorem refsf_pos {G:Gr} {i:Nat} (h:0<refsf G i):∃ n,G i=some n∧0<n.refs:=by
 unfold refsf at h
 cases hn:G i with
 | none=>rw [hn] at h;exact absurd h (by decide)
 | some n=>rw [hn] at h;exact ⟨n,rfl,by simp only at h;omega⟩
abbrev cntA (s:St) (l:List Tb) (h:List Nat):List Tb:=cntU (s.vars.length+1) s.vars l h l.length
theorem HOk.sr {l:List Tb} {h:List Nat} (ok:StOk B s) (k:HOk s l h) (z:Tb):z ∈ cntA s l h↔∃ i j,0<refsf s.nd i∧Rch s.nd i j∧z=s.tb (2 * j):=by
 rw [(cntU_ok (h:=h) ok.pm.ordr k.isT (Nat.lt_succ_self _) l.length (Nat.le_refl _)).2 z]
 constructor
 · rintro ⟨j,y,hj,hc,hl,hs⟩
   have h0:0<heldT l h y:=by rw [heldT_get k.nodup hl];exact hc
   obtain ⟨i,n,hn,rfl⟩:=k.pos y h0
   rw [k.held i n hn] at h0
   obtain ⟨j',hr,hz⟩:=(ok.sr_iff (val2 hn) z).1 hs
   rw [two_half] at hr
   exact ⟨i,j',by rw [refsf_some hn];omega,hr,hz⟩
 · rintro ⟨i,j,hi,hr,hz⟩
   obtain ⟨n,hn,hp⟩:=refsf_pos hi
   have h0:0<heldT l h (s.tb (2 * i)):=by rw [k.held i n hn];exact hp
   have hm:=heldT_mem k.len h0
   obtain ⟨q,hq⟩:=List.getElem?_of_mem hm
   have hlt:q<l.length:=(List.getElem?_eq_some_iff.1 hq).1
   rw [heldT_get k.nodup hq] at h0
   exact ⟨q,_,hlt,h0,hq,(ok.sr_iff (val2 hn) z).2 ⟨j,by rw [two_half];exact hr,hz⟩⟩
theorem HOk.nodupA {l:List Tb} {h:List Nat} (ok:StOk B s) (k:HOk s l h):(cntA s l h).Nodup:=(cntU_ok (h:=h) ok.pm.ordr k.isT (Nat.lt_succ_self _) l.length (Nat.le_refl _)).1
theorem HOk.live {l:List Tb} {h:List Nat} (ok:StOk B s) (k:HOk s l h):(cntA s l h).length+s.dead=many s.pl.slots:=ok.live_eq (k.nodupA ok) (k.sr ok)
theorem Rel.many {l:List Tb} {h:List Nat} (ok:StOk B s) (r:Rel s l h):l.length=many s.pl.slots:=ok.many_eq r.nodup r.mem
theorem HOk.keep {l:List Tb} {h:List Nat} (k:HOk s l h) (ok':StOk B s') (hv:s'.vars.length=s.vars.length) (hr:∀ i,refsf s'.nd i=refsf s.nd i) (hd:∀ e,val s.nd e→val s'.nd e→∀ ρ,den s'.nd e ρ=den s.nd e ρ):HOk s' l h:=by
 have htb:∀ e,val s.nd e→val s'.nd e→s'.tb e=s.tb e:=fun e h1 h2=>by unfold St.tb;rw [hv,funext (hd e h1 h2)]
 have hpos:∀ z,0<heldT l h z→∃ j n,s'.nd j=some n∧z=s'.tb (2 * j)∧0<n.refs:=fun z hz=>by
  obtain ⟨j,n,hn,rfl⟩:=k.pos z hz
  rw [k.held j n hn] at hz
  have h1:0<refsf s'.nd j:=by rw [hr,refsf_some hn];omega
  obtain ⟨n',hn',hp⟩:=refsf_pos h1
  exact ⟨j,n',hn',(htb _ (val2 hn) (val2 hn')).symm,hp⟩
 refine ⟨k.nodup,k.len,fun y hy=>by rw [hv];exact k.isT y hy,fun j n hn=>?_,fun z hz=>by obtain ⟨j,n,h1,h2,_⟩:=hpos z hz;exact ⟨j,n,h1,h2⟩⟩
 by_cases h0:0<n.refs
 · have h1:0<refsf s.nd j:=by rw [← hr,refsf_some hn];omega
   obtain ⟨n',hn',_⟩:=refsf_pos h1
   rw [htb _ (val2 hn') (val2 hn),k.held j n' hn']
   have:=hr j
   rw [refsf_some hn,refsf_some hn'] at this
   omega
 · rcases Nat.eq_zero_or_pos (heldT l h (s'.tb (2 * j))) with h1|h1
   · omega
   · obtain ⟨j',n',hn',ht,hp⟩:=hpos _ h1
     obtain rfl:=ok'.tb2_inj hn hn' ht
     rw [hn] at hn'
     cases hn'
     omega
theorem coll_refs (ok:StOk B s) (c:Coll B s s') (i:Nat):refsf s'.nd i=refsf s.nd i:=by
 rw [c.nd]
 unfold refsf
 by_cases hc:cntf s i=0
 · simp only [hc,if_true]
   cases hn:s.nd i with
   | none=>rfl
   | some n =>
     have h0:¬ 0<refsf s.nd i:=fun hp=>by
      have:=(ok.live_iff hn).2 ⟨i,hp,.here hn⟩
      omega
     have h1:=refsf_nonneg s.nd i
     unfold refsf at h0 h1
     rw [hn] at h0 h1
     simp only at h0 h1 ⊢
     omega
 · simp only [hc,if_false]
theorem coll_tb (c:Coll B s s') {e:Nat} (he:val s'.nd e):s'.tb e=s.tb e:=by unfold St.tb;rw [c.vars,funext (c.den e he)]
theorem coll_some (c:Coll B s s') {i:Nat} {n:Nd} (h:s'.nd i=some n):s.nd i=some n∧0<cntf s i:=by
 rw [c.nd] at h
 simp only at h
 split at h
 · cases h
 · exact ⟨h,by omega⟩
theorem coll_val (c:Coll B s s') {e:Nat} (h:val s'.nd e):val s.nd e:=h.imp id fun h=>by
 cases hn:s'.nd (e / 2) with
 | none=>rw [hn] at h;cases h
 | some n=>rw [(coll_some c hn).1];rfl
theorem heldT_map {l:List Tb} {f:Tb→Nat} (hd:l.Nodup) {z:Tb} (hz:z ∈ l):heldT l (l.map f) z=f z:=by
 obtain ⟨k,hk⟩:=List.getElem?_of_mem hz
 rw [heldT_get hd hk,List.getD_eq_getElem?_getD,List.getElem?_map,hk]
 rfl
theorem HOk.coll {l:List Tb} {h:List Nat} (ok:StOk B s) (k:HOk s l h) (c:Coll B s s'):Rel s' (cntA s l h) ((cntA s l h).map (heldT l h)):=by
 have hmem:∀ z,z ∈ cntA s l h↔∃ j n,s'.nd j=some n∧z=s'.tb (2 * j):=fun z=>by
  rw [k.sr ok z]
  constructor
  · rintro ⟨i,j,hi,hr,rfl⟩
    obtain ⟨_,m,hj⟩:=hr.some
    have hc:=(ok.live_iff hj).2 ⟨i,hi,hr⟩
    have hj':s'.nd j=some m:=by rw [c.nd];simp only;rw [if_neg (by omega),hj]
    exact ⟨j,m,hj',(coll_tb c (val2 hj')).symm⟩
  · rintro ⟨j,n,hn,rfl⟩
    obtain ⟨h1,h2⟩:=coll_some c hn
    obtain ⟨i,hi,hr⟩:=(ok.live_iff h1).1 h2
    exact ⟨i,j,hi,hr,coll_tb c (val2 hn)⟩
 refine ⟨k.nodupA ok,List.length_map _,hmem,fun j n hn=>?_⟩
 rw [heldT_map (k.nodupA ok) ((hmem _).2 ⟨j,n,hn,rfl⟩),coll_tb c (val2 hn)]
 exact k.held j n (coll_some c hn).1
structure Kn (s:St) (F:Nat) (X:Tb):Prop where
 v:val s.nd F
 t:s.tb F=X
theorem Kn.isT {F:Nat} {X:Tb} (h:Kn s F X):IsT s.vars.length X:=h.t ▸ isT_tb s F
def Cn (s:St) (l:List Tb) (h:List Nat) (X:Tb):Prop:=topT s.vars X=none∨normT X ∈ cntA s l h
theorem Cn.edge {l:List Tb} {h:List Nat} {X:Tb} (ok:StOk B s) (r:HOk s l h) (hX:IsT s.vars.length X) (c:Cn s l h X):∃ f,val s.nd f∧s.tb f=X:=by
 rcases c with c|c
 · exact ⟨_,.inl (by split <;> rfl),ok.const_tb hX c⟩
 · obtain ⟨i,j,hi,hr,hz⟩:=(r.sr ok _).1 c
   obtain ⟨_,m,hj⟩:=hr.some
   exact val_of_norm ok hj hz
theorem Kn.keep {l:List Tb} {h:List Nat} {F:Nat} {X:Tb} (ok:StOk B s) (ok':StOk B s') (hv:s'.vars.length=s.vars.length) (k:Kn s F X) (r:HOk s' l h) (c:Cn s' l h X) (hu:∀ f,val s'.nd f→(∀ ρ,den s'.nd f ρ=den s.nd F ρ)→F=f):Kn s' F X:=by
 obtain ⟨f,h1,h2⟩:=c.edge ok' r (by rw [hv];exact k.isT)
 have:s'.tb f=s.tb F:=h2.trans k.t.symm
 have hd:=(tabOf_inj (ok'.dep' h1) (hv ▸ ok.dep' k.v)).1 (by unfold St.tb at this;rw [hv] at this ⊢;exact this)
 obtain rfl:=hu f h1 hd
 exact ⟨h1,h2⟩
theorem Kn.coll {l:List Tb} {h:List Nat} {F:Nat} {X:Tb} (ok:StOk B s) (c:Coll B s s') (k:Kn s F X) (r:HOk s' l h) (cn:Cn s' l h X):Kn s' F X :=
 k.keep ok c.ok (by rw [c.vars]) r cn fun f hf hd=>ok.can.can F f k.v (coll_val c hf) fun ρ=>by rw [← hd,c.den f hf]
theorem Kn.live {l:List Tb} {h:List Nat} {F:Nat} {X:Tb} (ok:StOk B s) (c:Coll B s s') (k:Kn s F X) (r:HOk s l h) (cn:Cn s l h X):Kn s' F X:=by
 have r':HOk s' l h:=r.keep c.ok (by rw [c.vars]) (coll_refs ok c) fun e _ he=>c.den e he
 refine k.coll ok c r' (cn.imp (fun h1=>by rw [c.vars];exact h1) fun h1=>?_)
 have he:cntA s' l h=cntA s l h:=by unfold cntA;rw [c.vars]
 rw [he];exact h1
end Go.Proofs.YtdhkkkhnjooioaaGreat.G
namespace Go.Proofs.YtdhkkkhnjooioaaGreat.G
variable {B:Nat} {s s':St} {l:List Tb} {h:List Nat}
theorem Reref.tb' {id:Nat} {d:Int} (r:Reref s s' id d) (e:Nat):s'.tb e=s.tb e:=by unfold St.tb;rw [r.vars,r.same.den]
theorem Reref.kn {id:Nat} {d:Int} (r:Reref s s' id d) {F:Nat} {X:Tb} (k:Kn s F X):Kn s' F X:=⟨r.same.val.2 k.v,(r.tb' F).trans k.t⟩
theorem Kn.norm {F:Nat} {X:Tb} (ok:StOk B s) (k:Kn s F X):normT X=s.tb (2 * (F / 2)):=by rw [← k.t];exact ok.norm_tb k.v
theorem Kn.mem {F:Nat} {X:Tb} (ok:StOk B s) (r:Rel s l h) (k:Kn s F X):normT X ∈ l↔F / 2≠0:=by
 rw [k.norm ok,r.mem]
 constructor
 · rintro ⟨j,n,hn,he⟩ h0
   have hv:val s.nd (2 * (F / 2)):=.inl (by rw [two_half,h0])
   have:=(ok.tb_inj hv (val2 hn)).1 he
   rw [h0] at this
   have hj:j=0:=by omega
   rw [hj,show s.nd 0=none from ok.can.toAcyc.g0] at hn
   cases hn
 · intro h0
   have:=k.v.resolve_left h0
   cases hn:s.nd (F / 2) with
   | none=>rw [hn] at this;cases this
   | some n=>exact ⟨F / 2,n,hn,rfl⟩
theorem Kn.node {F:Nat} {X:Tb} (k:Kn s F X) (h0:F / 2≠0):∃ n,s.nd (F / 2)=some n:=by
 have:=k.v.resolve_left h0
 cases hn:s.nd (F / 2) with
 | none=>rw [hn] at this;cases this
 | some n=>exact ⟨n,rfl⟩
theorem Kn.top {F:Nat} {X:Tb} (ok:StOk B s) (k:Kn s F X):topT s.vars X=(s.nd (F / 2)).map (·.v):=by rw [← k.t];exact ok.top_tb k.v
theorem Kn.topnone {F:Nat} {X:Tb} (ok:StOk B s) (k:Kn s F X):topT s.vars X=none↔F / 2=0:=by
 rw [k.top ok]
 constructor
 · intro h1
   rcases k.v with h2|h2
   · exact h2
   · cases hn:s.nd (F / 2) with
     | none=>rw [hn] at h2;cases h2
     | some n=>rw [hn] at h1;cases h1
 · intro h1
   rw [h1,show s.nd 0=none from ok.can.toAcyc.g0];rfl
theorem Kn.held {F:Nat} {X:Tb} (ok:StOk B s) (r:Rel s l h) (k:Kn s F X):s.held (F:Int)=heldT l h (normT X):=by
 unfold St.held
 rw [is_nat k.v]
 simp only [Bool.not_true,Bool.false_eq_true,if_false,Int.toNat_natCast]
 by_cases h0:F / 2=0
 · rw [h0,show s.nd 0=none from ok.can.toAcyc.g0,heldT_not r.len (fun hm=>(k.mem ok r).1 hm h0)]
 · obtain ⟨n,hn⟩:=k.node h0
   rw [hn,k.norm ok,r.held _ n hn]
theorem Rel.reref {id:Nat} {d:Int} (r:Rel s l h) (ok:StOk B s) (e:Reref s s' id d) {n:Nd} (hn:s.nd id=some n) {c:Nat} (hc:(n.refs:Int)+d=(c:Int)):Rel s' l (h.set (l.idxOf (s.tb (2 * id))) c):=by
 have hmem:∀ j,(∃ m,s.nd j=some m)↔∃ m,s'.nd j=some m:=fun j=>by
  rw [← Option.isSome_iff_exists,← Option.isSome_iff_exists,e.same.isSome]
 refine ⟨r.nodup,by rw [List.length_set];exact r.len,fun z=>(r.mem z).trans ⟨fun ⟨j,m,hj,hz⟩=>?_,fun ⟨j,m,hj,hz⟩=>?_⟩,fun j m hj=>?_⟩
 · obtain ⟨m',hm'⟩:=(hmem j).1 ⟨m,hj⟩
   exact ⟨j,m',hm',by rw [e.tb'];exact hz⟩
 · obtain ⟨m',hm'⟩:=(hmem j).2 ⟨m,hj⟩
   exact ⟨j,m',hm',by rw [e.tb'] at hz;exact hz⟩
 · obtain ⟨m',hm'⟩:=(hmem j).2 ⟨m,hj⟩
   have h1:=e.refs j (by rw [hm'];rfl)
   rw [refsf_some hj] at h1
   unfold bump at h1
   rw [e.tb']
   have hin:s.tb (2 * id) ∈ l:=(r.mem _).2 ⟨id,n,hn,rfl⟩
   have hlt:l.idxOf (s.tb (2 * id))<h.length:=by rw [r.len];exact List.idxOf_lt_length_iff.2 hin
   by_cases hji:j=id
   · subst hji
     rw [if_pos rfl,refsf_some hn] at h1
     unfold heldT
     rw [List.getD_eq_getElem?_getD,List.getElem?_set_self hlt]
     show c=m.refs
     omega
   · rw [if_neg hji,refsf_some hm'] at h1
     have hne:l.idxOf (s.tb (2 * id))≠l.idxOf (s.tb (2 * j)):=fun he=>by
      have hj2:s.tb (2 * j) ∈ l:=(r.mem _).2 ⟨j,m',hm',rfl⟩
      have e1:=List.getElem_idxOf (List.idxOf_lt_length_iff.2 hin)
      have e2:=List.getElem_idxOf (List.idxOf_lt_length_iff.2 hj2)
      simp only [he] at e1
      exact hji (ok.tb2_inj hm' hn (e2.symm.trans e1))
     unfold heldT
     rw [List.getD_eq_getElem?_getD,List.getElem?_set_ne hne,← List.getD_eq_getElem?_getD]
     have:=r.held j m' hm'
     unfold heldT at this
     rw [this]
     omega
theorem hold_rel {F:Nat} {X:Tb} (ok:StOk B s) (hB:B<1152921504606846976) (r:Rel s l h) (k:Kn s F X):∃ s',s.hold (F:Int)=some (s',0)∧StOk (B+1) s'∧s'.vars=s.vars∧s'.pl.room=s.pl.room∧(∀ G Z,Kn s G Z→Kn s' G Z) ∧
 Rel s' l (if normT X ∈ l then h.set (l.idxOf (normT X)) (heldT l h (normT X)+1) else h):=by
 obtain ⟨s1,h1,h2,h3⟩:=ok.hold k.v hB
 refine ⟨s1,h1,h2,h3.vars,h3.room,fun G Z kz=>h3.kn kz,?_⟩
 by_cases h0:F / 2=0
 · rw [if_neg fun hm=>(k.mem ok r).1 hm h0]
   have hsame:∀ j m,s1.nd j=some m→∃ m',s.nd j=some m'∧m'.refs=m.refs:=fun j m hj=>by
    have hs:(s.nd j).isSome=true:=by rw [← h3.same.isSome,hj];rfl
    obtain ⟨m',hm'⟩:=Option.isSome_iff_exists.1 hs
    have h4:=h3.refs j hs
    rw [refsf_some hj] at h4
    unfold bump at h4
    rw [if_neg (fun e=>by rw [e,h0,show s.nd 0=none from ok.can.toAcyc.g0] at hm';cases hm'),refsf_some hm'] at h4
    exact ⟨m',hm',by omega⟩
   refine ⟨r.nodup,r.len,fun z=>(r.mem z).trans ⟨fun ⟨j,m,hj,hz⟩=>?_,fun ⟨j,m,hj,hz⟩=>?_⟩,fun j m hj=>?_⟩
   · obtain ⟨m',hm'⟩:=Option.isSome_iff_exists.1 (show (s1.nd j).isSome=true by rw [h3.same.isSome,hj];rfl)
     exact ⟨j,m',hm',by rw [h3.tb'];exact hz⟩
   · obtain ⟨m',hm',_⟩:=hsame j m hj
     exact ⟨j,m',hm',by rw [h3.tb'] at hz;exact hz⟩
   · obtain ⟨m',hm',e⟩:=hsame j m hj
     rw [h3.tb',r.held j m' hm',e]
 · rw [if_pos ((k.mem ok r).2 h0),k.norm ok]
   obtain ⟨n,hn⟩:=k.node h0
   rw [r.held _ n hn]
   exact r.reref ok h3 hn (by omega)
theorem drop_rel {F:Nat} {X:Tb} (ok:StOk B s) (r:Rel s l h) (k:Kn s F X):∃ s' e,s.drop (F:Int)=some (s',e)∧StOk B s'∧s'.vars=s.vars∧s'.pl.room=s.pl.room∧(∀ G Z,Kn s G Z→Kn s' G Z) ∧
 ((normT X ∉ l∧s'=s∧e=0)∨(normT X ∈ l∧heldT l h (normT X)=0∧s'=s∧e=5)∨(normT X ∈ l∧0<heldT l h (normT X)∧e=0∧Rel s' l (h.set (l.idxOf (normT X)) (heldT l h (normT X) - 1)))):=by
 obtain ⟨d0,d1⟩:=ok.drop k.v
 by_cases h0:F / 2=0
 · have r0:refsf s.nd (F / 2)=0:=by rw [h0];unfold refsf;rw [show s.nd 0=none from ok.can.toAcyc.g0]
   have hd:=d0 r0
   rw [if_pos h0] at hd
   exact ⟨s,0,hd,ok,rfl,rfl,fun _ _=>id,.inl ⟨fun hm=>(k.mem ok r).1 hm h0,rfl,rfl⟩⟩
 · obtain ⟨n,hn⟩:=k.node h0
   have hm:=(k.mem ok r).2 h0
   have hh:heldT l h (normT X)=n.refs:=by rw [k.norm ok,r.held _ n hn]
   by_cases hz:n.refs=0
   · have hd:=d0 (by rw [refsf_some hn,hz];rfl)
     rw [if_neg h0] at hd
     exact ⟨s,5,hd,ok,rfl,rfl,fun _ _=>id,.inr (.inl ⟨hm,by rw [hh,hz],rfl,rfl⟩)⟩
   · obtain ⟨s1,h1,h2,h3⟩:=d1 (by rw [refsf_some hn];omega)
     refine ⟨s1,0,h1,h2,h3.vars,h3.room,fun G Z kz=>h3.kn kz,.inr (.inr ⟨hm,by rw [hh];omega,rfl,?_⟩)⟩
     rw [hh,k.norm ok]
     exact r.reref ok h3 hn (by omega)
theorem swap_rel (ok:StOk B s) (hB:B<1152921504606846976) (r:Rel s l h) {k:Nat} (hk:k+1<s.vars.length) :
 ∃ s',StOk B s'∧s'.dead=0∧s'.pl.room=s.pl.room∧Rel s' (cntA s' l h) ((cntA s' l h).map (heldT l h))∧(cntA s' l h).length=many s'.pl.slots ∧
   (∀ F X,Kn s F X→Cn s l h X→Cn s' (cntA s' l h) ((cntA s' l h).map (heldT l h)) X→Kn s' F X) ∧
 ((s.swap k=some (s',7)∧s'.vars=s.vars∧s.pl.room<3 * (cntA s' l h).length)∨(s.swap k=some (s',0)∧s'.vars=(s.vars.set k (s.vars.getD (k+1) 0)).set (k+1) (s.vars.getD k 0))):=by
 obtain ⟨s0,c,hc⟩:=ok.swap hB hk
 have k0:HOk s0 l h:=r.hok.keep c.ok (by rw [c.vars]) (coll_refs ok c) fun e _ he=>c.den e he
 have hself:∀ {t:St},StOk B t→HOk t l h→t.dead=0→Rel t (cntA t l h) ((cntA t l h).map (heldT l h)):=fun {t} ot kt hd=>by
  obtain ⟨t',ht,ct⟩:=ot.collect
  have:t'=t:=by
   unfold St.collect at ht
   rw [if_pos hd] at ht
   injection ht with ht
   injection ht with ht _
   exact ht.symm
  subst this
  exact kt.coll ot ct
 rcases hc with ⟨h1,h2⟩|⟨s2,h1,w⟩
 · have hr:=hself c.ok k0 c.dead
   have hl:=hr.many c.ok
   refine ⟨s0,c.ok,c.dead,c.room,hr,hl,fun F X kx cn _=>kx.live ok c r.hok cn,.inl ⟨h1,c.vars,?_⟩⟩
   rw [hl,← c.room]
   exact h2
 · have hv:s2.vars=(s.vars.set k (s.vars.getD (k+1) 0)).set (k+1) (s.vars.getD k 0):=by
    rw [w.vars];unfold St.flipLev;simp only;rw [c.vars]
   have hvl:s2.vars.length=s0.vars.length:=by rw [hv,c.vars];simp
   have k2:HOk s2 l h:=k0.keep w.ok hvl w.refs w.dens
   have hr:=hself w.ok k2 w.dead
   have hl:=hr.many w.ok
   refine ⟨s2,w.ok,w.dead,w.room.trans c.room,hr,hl,fun F X kx cn cn'=>?_,.inr ⟨h1,hv⟩⟩
   have kx0:=kx.live ok c r.hok cn
   exact kx0.keep c.ok w.ok hvl hr.hok cn' fun f hf hd=>w.uniq F f kx0.v hf hd
end Go.Proofs.YtdhkkkhnjooioaaGreat.G
namespace Go.Proofs.YtdhkkkhnjooioaaGreat.G
variable {B:Nat} {s s':St} {l:List Tb} {h:List Nat}
theorem rk_iff {f n:Nat} {X:Tb} (ok:StOk B s) (k:Kn s f X) (hn:n<s.vars.length):lvf s n<rkT s.vars X↔∀ m,s.nd (f / 2)=some m→lvf s n<lvf s m.v:=by
 have ht:=k.top ok
 cases hd:s.nd (f / 2) with
 | none =>
   rw [hd] at ht
   have hr:rkT s.vars X=s.vars.length:=by
    unfold rkT
    refine List.findIdx_eq_length.2 fun x hx=>?_
    have:=List.find?_eq_none.1 (show s.vars.find? (hangsT X)=none from ht) x hx
    simpa using this
   exact ⟨fun _ m hm=>(by cases hm),fun _=>by rw [hr];exact (ok.pm.lv n hn).1⟩
 | some m =>
   rw [hd] at ht
   rw [rkT_lvf ok (show topT s.vars X=some m.v from ht)]
   exact ⟨fun h1 m' hm=>by cases hm;exact h1,fun h1=>h1 m rfl⟩
theorem join_tb {f g r n:Nat} {X Y:Tb} (kf:s.tb f=X) (kg:s.tb g=Y) (hd:∀ ρ,den s.nd r ρ=ite3 n (den s.nd g) (den s.nd f) ρ):s.tb r=joinT n X Y:=by
 rw [← kf,← kg]
 unfold St.tb
 rw [join_tabOf,show den s.nd r=ite3 n (den s.nd g) (den s.nd f) from funext hd]
theorem mk_rel {f g:Nat} {X Y:Tb} (ok:StOk B s) (r:Rel s l h) (kf:Kn s f X) (kg:Kn s g Y) (v:Int):∃ s' rr e,s.mkE v f g=some (s',rr,e)∧StOk B s'∧s'.vars=s.vars∧s'.pl.room=s.pl.room∧(∀ G Z,Kn s G Z→Kn s' G Z) ∧
 ((e=9∧rr=0∧s'=s∧s.level v<0)∨∃ n:Nat,v=(n:Int)∧n<s.vars.length ∧
   ((e=10∧rr=0∧s'=s∧¬ (lvf s n<rkT s.vars X∧lvf s n<rkT s.vars Y))∨(lvf s n<rkT s.vars X∧lvf s n<rkT s.vars Y ∧
     ((e=0∧s'=s∧Kn s rr (joinT n X Y)∧(X=Y∨normT (joinT n X Y) ∈ l))∨(¬ (X=Y∨normT (joinT n X Y) ∈ l) ∧
       ((e=7∧rr=0∧s'=s∧s.pl.room≤l.length)∨(e=0∧l.length<s.pl.room∧Rel s' (l ++ [normT (joinT n X Y)]) (h ++ [0])∧Kn s' rr (joinT n X Y)))))))):=by
 by_cases c1:s.level v<0
 · refine ⟨s,0,9,?_,ok,rfl,rfl,fun _ _=>id,.inl ⟨rfl,rfl,rfl,c1⟩⟩
   unfold St.mkE
   rw [if_pos c1]
 obtain ⟨n,rfl,hn⟩:=(ok.level_cases v).resolve_left c1
 have hif:=is_nat kf.v
 have hig:=is_nat kg.v
 by_cases c2:lvf s n<rkT s.vars X∧lvf s n<rkT s.vars Y
 case neg =>
  refine ⟨s,0,10,?_,ok,rfl,rfl,fun _ _=>id,.inr ⟨n,rfl,hn,.inl ⟨rfl,rfl,rfl,c2⟩⟩⟩
  have hu:(s.under (f:Int).toNat (s.level n) && s.under (g:Int).toNat (s.level n))=false:=by
   rw [Int.toNat_natCast,Int.toNat_natCast,Bool.and_eq_false_iff,Bool.eq_false_iff,Bool.eq_false_iff]
   by_cases h1:lvf s n<rkT s.vars X
   · exact .inr fun h2=>c2 ⟨h1,(rk_iff ok kg hn).2 ((ok.under kg.v hn).1 h2)⟩
   · exact .inl fun h2=>h1 ((rk_iff ok kf hn).2 ((ok.under kf.v hn).1 h2))
  unfold St.mkE
  rw [if_neg c1,hif,hig,hu]
  rfl
 obtain ⟨c2,c3⟩:=c2
 have ul:=(rk_iff ok kf hn).1 c2
 have uh:=(rk_iff ok kg hn).1 c3
 have hmany:=r.many ok
 rcases ok.make hn kf.v kg.v ul uh with ⟨rr,m1,m2,m3⟩|⟨m1,m2,m3,m4⟩|⟨s1,id,t,m1,m2,m3,m4,m5,m6,m7,m8⟩
 · have kr:Kn s rr (joinT n X Y):=⟨m2,join_tb kf.t kg.t m3⟩
   refine ⟨s,rr,0,m1,ok,rfl,rfl,fun _ _=>id,.inr ⟨n,rfl,hn,.inr ⟨c2,c3,.inl ⟨rfl,rfl,kr,?_⟩⟩⟩⟩
   by_cases h0:rr / 2=0
   · left
     have hc:∀ ρ ρ',den s.nd rr ρ=den s.nd rr ρ':=fun ρ ρ'=>by
      have h9:s.nd (rr / 2)=none:=by rw [h0];exact ok.can.toAcyc.g0
      unfold den
      rw [ev_none h9,ev_none h9]
     have hf:∀ ρ,den s.nd f ρ=den s.nd rr ρ:=fun ρ=>by
      rw [← ok.low kf.v ul ρ false,← hc (upd ρ n false) ρ,m3]
      unfold ite3
      rw [show upd ρ n false n=false by unfold upd;rw [if_pos rfl]]
      rfl
     have hg:∀ ρ,den s.nd g ρ=den s.nd rr ρ:=fun ρ=>by
      rw [← ok.low kg.v uh ρ true,← hc (upd ρ n true) ρ,m3]
      unfold ite3
      rw [show upd ρ n true n=true by unfold upd;rw [if_pos rfl]]
      rfl
     rw [← kf.t,← kg.t]
     unfold St.tb
     rw [show den s.nd f=den s.nd g from funext fun ρ=>(hf ρ).trans (hg ρ).symm]
   · exact .inr ((kr.mem ok r).2 h0)
 · refine ⟨s,0,7,m1,ok,rfl,rfl,fun _ _=>id,.inr ⟨n,rfl,hn,.inr ⟨c2,c3,.inr ⟨?_,.inl ⟨rfl,rfl,rfl,by omega⟩⟩⟩⟩⟩
   rintro (he|he)
   · exact m3 ((ok.tb_inj kf.v kg.v).1 (by rw [kf.t,kg.t,he]))
   · obtain ⟨j,nd,hj,hz⟩:=(r.mem _).1 he
     obtain ⟨e,h1,h2⟩:=val_of_norm ok hj hz
     refine m4 e h1 ((tabOf_inj (ok.dep' h1) ((ok.dep' kg.v).ite3 (ok.dep' kf.v) hn)).1 ?_)
     rw [← join_tabOf]
     show s.tb e=joinT n (s.tb f) (s.tb g)
     rw [h2,kf.t,kg.t]
 · have hvt:∀ e,val s.nd e→val s1.nd e:=fun e he=>he.imp (fun h=>h) fun h=>by
    rw [m2.nd];unfold addN
    split
    · rfl
    · exact h
   have htb:∀ e,val s.nd e→s1.tb e=s.tb e:=fun e he=>by unfold St.tb;rw [m2.vars,funext (m6 e he)]
   have hid:s1.nd id=some ⟨n,flipIf f t,flipIf g t,0⟩:=by rw [m2.nd];unfold addN;simp
   have hold:∀ j nd,s1.nd j=some nd→j≠id→s.nd j=some nd:=fun j nd hj hne=>by
    rw [m2.nd] at hj;unfold addN at hj;simp only [hne,if_false] at hj;exact hj
   have hidj:∀ j nd,s.nd j=some nd→j≠id∧s1.nd j=some nd:=fun j nd hj=>by
    have:j≠id:=fun e=>by rw [e,m2.old] at hj;cases hj
    refine ⟨this,?_⟩
    rw [m2.nd];unfold addN;simp only [this,if_false];exact hj
   have he2:edge id t / 2=id:=by unfold edge flipIf flip;split <;> (try split) <;> omega
   have kr:Kn s1 (edge id t) (joinT n X Y):=by
    refine ⟨.inr (by rw [he2,hid];rfl),?_⟩
    rw [← kf.t,← kg.t]
    unfold St.tb
    rw [m2.vars,join_tabOf,show den s1.nd (edge id t)=ite3 n (den s.nd g) (den s.nd f) from funext m7]
   have hz:normT (joinT n X Y)=s1.tb (2 * id):=by rw [kr.norm m3,he2]
   have hnot:¬ (X=Y∨normT (joinT n X Y) ∈ l):=by
    rintro (he|he)
    · exact m5 ((ok.tb_inj kf.v kg.v).1 (by rw [kf.t,kg.t,he]))
    · obtain ⟨j,nd,hj,hz'⟩:=(r.mem _).1 he
      obtain ⟨h1,h2⟩:=hidj j nd hj
      rw [hz,← htb _ (val2 hj)] at hz'
      exact h1 (m3.tb2_inj hid h2 hz').symm
   refine ⟨s1,edge id t,0,m1,m3,m2.vars,m2.room,fun G Z kz=>⟨hvt G kz.v,(htb G kz.v).trans kz.t⟩,.inr ⟨n,rfl,hn,.inr ⟨c2,c3,.inr ⟨hnot,.inr ⟨rfl,by omega,?_,kr⟩⟩⟩⟩⟩
   rw [not_or] at hnot
   have hnd:(l ++ [normT (joinT n X Y)]).Nodup:=by
    rw [List.nodup_append]
    refine ⟨r.nodup,by simp,fun a ha b hb=>?_⟩
    rw [List.mem_singleton] at hb
    rintro rfl
    exact hnot.2 (hb ▸ ha)
   refine ⟨hnd,by simp [r.len],fun z=>?_,fun j nd hj=>?_⟩
   · rw [List.mem_append,List.mem_singleton,r.mem]
     constructor
     · rintro (⟨j,nd,hj,rfl⟩|rfl)
       · exact ⟨j,nd,(hidj j nd hj).2,(htb _ (val2 hj)).symm⟩
       · exact ⟨id,_,hid,hz⟩
     · rintro ⟨j,nd,hj,rfl⟩
       by_cases hji:j=id
       · subst hji;exact .inr hz.symm
       · have:=hold j nd hj hji
         exact .inl ⟨j,nd,this,htb _ (val2 this)⟩
   · by_cases hji:j=id
     · subst hji
       rw [← hz,heldT_get hnd (k:=l.length) (by simp)]
       rw [hid] at hj
       cases hj
       rw [List.getD_eq_getElem?_getD,List.getElem?_append_right (by rw [r.len];exact Nat.le_refl _),r.len]
       simp
     · have hj0:=hold j nd hj hji
       rw [htb _ (val2 hj0),← r.held j nd hj0]
       obtain ⟨k,hk⟩:=List.getElem?_of_mem ((r.mem _).2 ⟨j,nd,hj0,rfl⟩)
       have hlt:=(List.getElem?_eq_some_iff.1 hk).1
       rw [heldT_get r.nodup hk,heldT_get hnd (k:=k) (by rw [List.getElem?_append_left hlt];exact hk)]
       rw [List.getD_eq_getElem?_getD,List.getElem?_append_left (by rw [r.len];exact hlt),← List.getD_eq_getElem?_getD]
end Go.Proofs.YtdhkkkhnjooioaaGreat.G
