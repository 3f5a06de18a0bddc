import Derived.Test.YtdhkkkhnjooioaaGreatZbu
set_option linter.unusedSimpArgs false
set_option linter.unusedVariables false
namespace Go.Proofs.YtdhkkkhnjooioaaGreat
open Go.RowKit
section
variable {n b i S kd qa qb:Nat} {v:Int} {s:G.St} {l:List G.Tb} {h:List Nat} {ks:List (Nat × G.Tb)}
theorem lvl_level (hp:G.PermOk s) (v:Int):lvlOf s.vars v=s.level v:=by
 rw [hp.level]
 by_cases hv:0≤v∧v<s.vars.length
 · rw [if_pos hv]
   obtain ⟨g1,g2⟩:=hp.lv v.toNat (by omega)
   have h1:s.vars[G.lvf s v.toNat]?=some v.toNat:=hp.get (by omega)
   refine lvl_at (i:=G.lvf s v.toNat) (fun j z hj hz e=>?_) h1 (by omega)
   have hjl:=(List.getElem?_eq_some_iff.1 hz).1
   have h2:=hp.vl j hjl
   rw [List.getD_eq_getElem?_getD,hz] at h2
   have h3:G.lvf s z=j:=h2.2
   have h4:z=v.toNat:=by omega
   rw [h4] at h3
   omega
 · rw [if_neg hv]
   refine lvl_none fun j z hj hz e=>?_
   have h2:=hp.vl j hj
   rw [List.getD_eq_getElem?_getD,hz] at h2
   have h3:z<s.vars.length:=h2.1
   omega
theorem norm_map (p:G.PS n b i s l h ks) {t:G.St} (ht:∀ y ∈ G.cntA t l h,G.normT y=y):((G.cntA t l h).map fun y=>G.heldT l h (G.normT y))=(G.cntA t l h).map (G.heldT l h) :=
 List.map_congr_left fun y hy=>by rw [ht y hy]
theorem rel_norm {B:Nat} {t:G.St} (ok:G.StOk B t) {cl:List G.Tb} {gl:List Nat} (r:G.Rel t cl gl):∀ y ∈ cl,G.normT y=y:=fun y hy=>by
 obtain ⟨j,nd,hn,rfl⟩:=(r.mem y).1 hy
 rw [ok.norm_tb (G.val2 hn),show 2 * j / 2=j by omega]
theorem dk_coll (hn:n≤4) (hi:i<46) (p:G.PS n b i s l h ks) (hlb:l.length≤1500) (hkl:ks.length≤100) (hkd:kd<256∧kd % 9=6) (hqa:qa<256) (hqb:qb<256) :
 ∃ s' l' h' ks',G.PS n b (i+1) s' l' h' ks'∧ks'.length≤ks.length+1∧DoOk n b S kd qa qb v s l h ks s' l' h' ks':=by
 obtain ⟨F,X,hx,kx⟩:=p.get qa
 obtain ⟨G',Y,hy,ky⟩:=p.get qb
 obtain ⟨s',hm,hv',hlive,hp⟩:=p.coll hn
 refine ⟨s',_,_,_,hp,Nat.le_succ_of_le (List.length_filter_le _ _),fun E w I m mk ms ov lv hv kv hA hl hh hoo hk hS=>?_⟩
 have ho:G.Ordr n s.vars:=p.len ▸ p.ok.pm.ordr
 have hT:∀ y ∈ l,G.IsT n y:=fun y hy=>p.len ▸ p.rel.isT y hy
 have hcl:G.cntU (n+1) s.vars l h l.length=G.cntA s l h:=by unfold G.cntA;rw [p.len]
 have hgl:=norm_map (t:=s) p (rel_norm hp.ok hp.rel)
 have hclT:∀ y ∈ G.cntA s l h,G.IsT n y:=fun y hy=>hp.len ▸ hp.rel.isT y hy
 have hkT:∀ k ∈ ks,G.IsT n k.2:=fun k hk=>p.len ▸ (p.kn k hk).isT
 have hclb:(G.cntA s l h).length≤1500:=by omega
 refine (do_coll (s:=s) hl hh hoo hk ⟨p.pos,hkl⟩ hqa hqb hx hy hkd (cq:=(G.cntA s l h).length) (dd:=s.dead) (cl:=G.cntA s l h) (gl:=(G.cntA s l h).map (G.heldT l h)) (ks':=ks.filter fun k=>decide (G.topT s'.vars k.2=none∨G.normT k.2 ∈ G.cntA s' (G.cntA s l h) ((G.cntA s l h).map (G.heldT l h)))) hlive hlb (fun w' ms' J hJ h9=>?_) (fun w' ms' J cv gv hJ hcv hgv h9=>?_) (fun w' ms' J h9=>scollect_any hm p.ok.pl hA h9) hS).mono ?_
 · have:=rcollect_s (a:=n) (b:=b) (hl.le hJ) (hh.le hJ) p.rel.len (hoo.le hJ) (hoo.le hJ) ho p.len hn hT hlb hcl rfl h9
   rwa [hgl] at this
 · have:=counting_own (a:=n) (b:=b) (I0:=I) hcv hgv (List.length_map _) (hoo.le hJ) ho p.len hn hclT hclb hk hJ hkT hkl h9
   rw [hv']
   have e2:G.cntA s' (G.cntA s l h) ((G.cntA s l h).map (G.heldT l h))=G.cntU (n+1) s.vars (G.cntA s l h) ((G.cntA s l h).map (G.heldT l h)) (G.cntA s l h).length:=by
    show G.cntU (s'.vars.length+1) s'.vars _ _ _=_
    rw [hv',p.len]
   rw [e2]
   exact this
 · rintro e w' ⟨cv,gv,kv',J,m',mk',rfl,hJ,h1,h2,h3,h4,h5⟩
   exact ⟨_,_,_,_,J,m',mk',rfl,hJ,h1,h2,by rw [hv'];exact hoo.le hJ,h3,h4,h5⟩
theorem dk_bad (hn:n≤4) (p:G.PS n b i s l h ks) (hlb:l.length≤1500) (hkl:ks.length≤100) (hkd:kd<256∧kd % 9=7) (hqa:qa<256) (hqb:qb<256) (hbad:v<0∨v≥(n:Int) - 1) :
 ∃ s' l' h' ks',G.PS n b (i+1) s' l' h' ks'∧ks'.length≤ks.length+1∧DoOk n b S kd qa qb v s l h ks s' l' h' ks':=by
 obtain ⟨F,X,hx,kx⟩:=p.get qa
 obtain ⟨G',Y,hy,ky⟩:=p.get qb
 refine ⟨s,l,h,ks,p.same,by omega,fun E w I m mk ms ov lv hv kv hA hl hh hoo hk hS=>?_⟩
 have ho:G.Ordr n s.vars:=p.len ▸ p.ok.pm.ordr
 have hT:∀ y ∈ l,G.IsT n y:=fun y hy=>p.len ▸ p.rel.isT y hy
 have hb2:v<0∨v≥(s.vars.length:Int) - 1:=by rw [p.len];exact hbad
 refine (do_bad (s:=s) (s':=s) hl hh hoo hk ⟨p.pos,hkl⟩ hqa hqb hx hy hkd (fun w' ms' J hJ h9=>lswap_bad (s':=s) (k:=0) (hl.le hJ) (hh.le hJ) p.rel.len (hoo.le hJ) ho p.len hn hT hlb hA hb2 rfl h9) (fun w' ms' J hJ h9=>rswapped_bad (hoo.le hJ) (by rw [p.len];omega) hb2 h9) hS).mono ?_
 rintro e w' ⟨rfl,h1⟩
 exact ⟨_,_,_,_,I,m,mk,rfl,PH.le.refl _,hl,hh,hoo,hk,hA,h1⟩
theorem dk_swap (hn:n≤4) (hi:i<46) (p:G.PS n b i s l h ks) (hlb:l.length≤1500) (hkl:ks.length≤100) (hkd:kd<256∧kd % 9=7) (hqa:qa<256) (hqb:qb<256) {k:Nat} (hvk:v=(k:Int)) (hk1:k+1<n) :
 ∃ s' l' h' ks',G.PS n b (i+1) s' l' h' ks'∧ks'.length≤ks.length+1∧DoOk n b S kd qa qb v s l h ks s' l' h' ks':=by
 subst hvk
 obtain ⟨F,X,hx,kx⟩:=p.get qa
 obtain ⟨G',Y,hy,ky⟩:=p.get qb
 obtain ⟨s',hdead,hmany,hp,hc⟩:=p.swap hn (by omega) hk1
 refine ⟨s',_,_,_,hp,Nat.le_succ_of_le (Nat.le_trans (List.length_filter_le _ _) (List.length_filter_le _ _)),fun E w I m mk ms ov lv hv kv hA hl hh hoo hk hS=>?_⟩
 have ho:G.Ordr n s.vars:=p.len ▸ p.ok.pm.ordr
 have ho':G.Ordr n s'.vars:=hp.len ▸ hp.ok.pm.ordr
 have hT:∀ y ∈ l,G.IsT n y:=fun y hy=>p.len ▸ p.rel.isT y hy
 have hcl':G.cntU (n+1) s'.vars l h l.length=G.cntA s' l h:=by unfold G.cntA;rw [hp.len]
 have hgl:=norm_map (t:=s') p (rel_norm hp.ok hp.rel)
 have hclT:∀ y ∈ G.cntA s' l h,G.IsT n y:=fun y hy=>hp.len ▸ hp.rel.isT y hy
 have hkT:∀ k ∈ ks,G.IsT n k.2:=fun k hk=>p.len ▸ (p.kn k hk).isT
 have hfew:=hp.few
 have hclb:(G.cntA s' l h).length≤1500:=by omega
 have hx1:s.vars[k]?=some (s.vars.getD k 0):=by rw [List.getD_eq_getElem?_getD,List.getElem?_eq_getElem (by rw [p.len];omega)];rfl
 have hy1:s.vars[k+1]?=some (s.vars.getD (k+1) 0):=by rw [List.getD_eq_getElem?_getD,List.getElem?_eq_getElem (by rw [p.len];omega)];rfl
 have hmn:G.many s.pl.slots≤1000000:=by rw [← p.rel.many p.ok];omega
 have hol:s.vars.length≤64:=by rw [p.len];omega
 have hdef:G.cntU (n+1) s.vars l h l.length=G.cntA s l h:=by unfold G.cntA;rw [p.len]
 refine (do_swp (s:=s) (s':=s') hl hh hoo hk ⟨p.pos,hkl⟩ hqa hqb hx hy hkd (qo:=n) (cq:=(G.cntA s' l h).length) (os':=s'.vars) (cl:=G.cntA s' l h) (gl:=(G.cntA s' l h).map (G.heldT l h)) (ks1:=ks.filter fun k=>decide (G.topT s.vars k.2=none∨G.normT k.2 ∈ G.cntA s l h))
  (ks2:=(ks.filter fun k=>decide (G.topT s.vars k.2=none∨G.normT k.2 ∈ G.cntA s l h)).filter fun k=>decide (G.topT s'.vars k.2=none∨G.normT k.2 ∈ G.cntA s' (G.cntA s' l h) ((G.cntA s' l h).map (G.heldT l h)))) (fun w' ms' J hJ h9=>?_) (fun w' ms' J hJ h9=>?_) (fun w' ms' J hJ h9=>?_) (fun w' ms' J m1 o' cv gv v1 hJ ho2 hcv hgv hk1 h9=>?_) hS).mono ?_
 · rcases hc with ⟨hm,hvv,hroom⟩|⟨hm,hvv⟩
   · have hcl:G.cntU (n+1) s.vars l h l.length=G.cntA s' l h:=by rw [← hcl',hvv]
     refine (lswap_7 (s':=s') (hl.le hJ) (hh.le hJ) p.rel.len (hoo.le hJ) ho p.len hn hT hlb hA (by rw [p.len];exact hk1) hx1 hy1 hcl hroom hdead (fun w2 ms2 J2 h8=>sswap_any hm p.ok.sane p.ok.pm (G.StOk.swap_len p.ok hmn) hA h8) h9).mono ?_
     rintro e w2 ⟨cv,gv,K,m',rfl,hK,h1,h2,h3,h4⟩
     rw [hgl] at h2
     have hoK:=(hoo.le hJ).le hK
     have g1:=h1
     have g2:=h2
     obtain ⟨⟨Ac,cc,rfl⟩,_⟩:=g1.get
     obtain ⟨⟨Ag,cg,rfl⟩,_⟩:=g2
     have g3:=hoK
     obtain ⟨⟨uA,uC,rfl⟩,_⟩:=g3
     rw [List.length_map] at h2 ⊢
     rw [p.len] at hoK ⊢
     rw [← hvv] at hoK
     exact ⟨uA,uC,Ac,cc,Ag,cg,K,m',rfl,hK,hoK,h1,h2,h3,h4⟩
   · refine (lswap_0 (s':=s') (os':=s'.vars) (hl.le hJ) (hh.le hJ) p.rel.len (hoo.le hJ) ho p.len hn hT hlb hA (by rw [p.len];exact hk1) hx1 hy1 hvv.symm ho' hcl' hmany.symm hdead (fun w2 ms2 J2 h8=>sswap_any hm p.ok.sane p.ok.pm (G.StOk.swap_len p.ok hmn) hA h8) h9).mono ?_
     rintro e w2 ⟨uv,cv,gv,K,m',rfl,hK,h0,h1,h2,h3,h4⟩
     rw [hgl] at h2
     have g1:=h1
     have g2:=h2
     have g3:=h0
     obtain ⟨⟨Ac,cc,rfl⟩,_⟩:=g1.get
     obtain ⟨⟨Ag,cg,rfl⟩,_⟩:=g2
     obtain ⟨⟨uA,uC,rfl⟩,_⟩:=g3
     rw [List.length_map] at h2 ⊢
     rw [hp.len] at h0 ⊢
     exact ⟨uA,uC,Ac,cc,Ag,cg,K,m',rfl,hK,h0,h1,h2,h3,h4⟩
 · refine (rswapped_any (hoo.le hJ) (by rw [p.len];exact hk1) hx1 hy1 hol h9).mono ?_
   rintro e w2 ⟨u,K,rfl,hK,_,h8⟩
   exact ⟨u,K,rfl,hK,h8⟩
 · have:=counting_own (a:=n) (b:=b) (I0:=I) (hl.le hJ) (hh.le hJ) p.rel.len (hoo.le hJ) ho p.len hn hT hlb hk hJ hkT hkl h9
   rwa [hdef] at this
 · have hk1T:∀ k ∈ (ks.filter fun k=>decide (G.topT s.vars k.2=none∨G.normT k.2 ∈ G.cntA s l h)),G.IsT n k.2:=fun k hk=>hkT k (List.mem_filter.1 hk).1
   have:=counting_own (a:=n) (b:=b) (I0:=I) hcv hgv (List.length_map _) ho2 ho' hp.len hn hclT hclb hk1 hJ hk1T (Nat.le_trans (List.length_filter_le _ _) hkl) h9
   have e2:G.cntA s' (G.cntA s' l h) ((G.cntA s' l h).map (G.heldT l h))=G.cntU (n+1) s'.vars (G.cntA s' l h) ((G.cntA s' l h).map (G.heldT l h)) (G.cntA s' l h).length:=by
    show G.cntU (s'.vars.length+1) s'.vars _ _ _=_
    rw [hp.len]
   rw [e2]
   exact this
 · rintro e w' ⟨o',cv,gv,kv',J,m',mk',rfl,hJ,h0,h1,h2,h3,h4,h5⟩
   exact ⟨_,_,_,_,J,m',mk',rfl,hJ,h1,h2,h0,h3,h4,h5⟩
theorem dk_mk (hn:n≤4) (hi:i<46) (p:G.PS n b i s l h ks) (hlb:l.length≤1500) (hkl:ks.length≤100) (hkd:kd<256∧kd % 9<4) (hqa:qa<256) (hqb:qb<256) :
 ∃ s' l' h' ks',G.PS n b (i+1) s' l' h' ks'∧ks'.length≤ks.length+1∧DoOk n b S kd qa qb v s l h ks s' l' h' ks':=by
 obtain ⟨F,X,hx,kx⟩:=p.get qa
 obtain ⟨G',Y,hy,ky⟩:=p.get qb
 obtain ⟨s',rr,e,hm,hv',hc⟩:=p.make kx ky v
 have hTab:=p.ok.sane.tab
 have hF:=p.ok.val_lt kx.v
 have hG:=p.ok.val_lt ky.v
 have ho:G.Ordr n s.vars:=p.len ▸ p.ok.pm.ordr
 have hXn:G.IsT n X:=p.len ▸ kx.isT
 have hYn:G.IsT n Y:=p.len ▸ ky.isT
 have hlT:∀ y ∈ l,y.length≤4096:=fun y hy=>by have:=len16 hn (p.len ▸ p.rel.isT y hy);omega
 have HSm:∀ (E:World) (I m:PH) (w':World) (ms':List PH),StAt S s m→Sat E I (m::ms') w'→Calls Tryz.prog 10 #[vPt S,.int .i64 v,nv F,nv G'] w' fun e2 w''=>e2=.returned (.tuple #[nv rr,nv e])∧∃ m',StAt S s' m'∧Sat E I (m'::ms') w'':=fun E I m w' ms' hA h9=>smk_any hm (by omega) (by omega) hTab hA h9
 have hpos:=p.pos
 rcases hc with ⟨rfl,rfl,rfl,hlv⟩|⟨mv,rfl,hmn,hc⟩
 · refine ⟨s',l,h,ks,p.same,by omega,fun E w I m mk ms ov lv hv kv hA hl hh hoo hk hS=>?_⟩
   refine (do_err (s:=s') (s':=s') hl hh hoo hk ⟨hpos,hkl⟩ hqa hqb hx hy hkd (er:=9) (by decide) (fun w' ms' J x y hJ hbx hby h9=>?_) (fun w' ms' J h9=>HSm E J m w' ms' hA h9) hS).mono ?_
   · refine (rmk_9 (hl.le hJ) (hh.le hJ) (hoo.le hJ) (by rw [p.len];exact hn) (by rw [lvl_level p.ok.pm];exact hlv) h9).mono ?_
     rintro e w2 ⟨rfl,h8⟩
     exact ⟨_,J,rfl,PH.le.refl _,h8⟩
   · rintro e w' ⟨rfl,m',h1,h2⟩
     exact ⟨_,_,_,_,I,m',mk,rfl,PH.le.refl _,hl,hh,hoo,hk,h1,h2⟩
 have hlvl:lvlOf s.vars (mv:Int)=(G.lvf s mv:Int):=by rw [lvl_level p.ok.pm,p.ok.pm.level_nat (by rw [p.len];exact hmn)]
 have hlvn:G.lvf s mv<n:=by have:=(p.ok.pm.lv mv (by rw [p.len];exact hmn)).1;rw [← p.len];exact this
 rcases hc with ⟨rfl,rfl,rfl,hbad⟩|⟨hrx,hry,hc⟩
 · refine ⟨s',l,h,ks,p.same,by omega,fun E w I m mk ms ov lv hv kv hA hl hh hoo hk hS=>?_⟩
   refine (do_err (s:=s') (s':=s') hl hh hoo hk ⟨hpos,hkl⟩ hqa hqb hx hy hkd (er:=10) (by decide) (fun w' ms' J x y hJ hbx hby h9=>?_) (fun w' ms' J h9=>HSm E J m w' ms' hA h9) hS).mono ?_
   · refine (rmk_10 (hl.le hJ) (hh.le hJ) (hoo.le hJ) ho p.len hn hbx hby hXn hYn hlvl hlvn hbad h9).mono ?_
     rintro e w2 ⟨rfl,h8⟩
     exact ⟨_,J,rfl,PH.le.refl _,h8⟩
   · rintro e w' ⟨rfl,m',h1,h2⟩
     exact ⟨_,_,_,_,I,m',mk,rfl,PH.le.refl _,hl,hh,hoo,hk,h1,h2⟩
 have HR:∀ (E:World) (I:PH) (w':World) (ms':List PH) (ov lv hv x y:Value),RowsR I lv l→NumR I hv h→NumR I ov s.vars→BoolR I x X→BoolR I y Y→Sat E I ms' w'→_:=fun E I w' ms' ov lv hv x y hl hh hoo hbx hby h9=>rmk_good (a:=n) (room:=b) (v:=mv) hl hh hoo ho p.len hn hbx hby hXn hYn p.rel.len hlT (by omega) hlvl hlvn hmn hrx hry h9
 rcases hc with ⟨rfl,hin,hp⟩|⟨hnin,⟨rfl,rfl,rfl,hroom⟩|⟨rfl,hroom,hp⟩⟩
 · refine ⟨s',l,h,_,hp,by simp,fun E w I m mk ms ov lv hv kv hA hl hh hoo hk hS=>?_⟩
   refine (do_ok (s:=s) (s':=s') hl hh hoo hk ⟨hpos,hkl⟩ hqa hqb hx hy hkd (l':=l) (h':=h) (rr:=rr) (t':=G.joinT mv X Y) (fun w' ms' J x y hJ hbx hby h9=>?_) (fun w' ms' J h9=>HSm E J m w' ms' hA h9) hS).mono ?_
   · refine (HR E J w' ms' ov lv hv x y (hl.le hJ) (hh.le hJ) (hoo.le hJ) hbx hby h9).mono ?_
     rintro e w2 ⟨lv',hv2,z,K,er,rfl,hK,h8,⟨rfl,rfl,rfl,hz,_⟩|⟨hno,_⟩⟩
     · have g1:=(hl.le hJ).le hK
       have g2:=(hh.le hJ).le hK
       have g3:=hz
       obtain ⟨⟨A',c',rfl⟩,_⟩:=g1.get
       have g4:=g2
       obtain ⟨⟨B',d',rfl⟩,_⟩:=g4
       obtain ⟨⟨Az,cz,rfl⟩,_⟩:=g3
       exact ⟨A',_,c',B',_,d',Az,_,cz,K,rfl,hK,g1,g2,hz,h8⟩
     · exact absurd hin hno
   · rintro e w' ⟨lv',hv2,kv',J,m',mk',rfl,hJ,h1,h2,h3,h4,h5⟩
     exact ⟨_,_,_,_,J,m',mk',rfl,hJ,h1,h2,by rw [hv'];exact hoo.le hJ,h3,h4,h5⟩
 · refine ⟨s',l,h,ks,p.same,by omega,fun E w I m mk ms ov lv hv kv hA hl hh hoo hk hS=>?_⟩
   refine (do_err (s:=s') (s':=s') hl hh hoo hk ⟨hpos,hkl⟩ hqa hqb hx hy hkd (er:=7) (by decide) (fun w' ms' J x y hJ hbx hby h9=>?_) (fun w' ms' J h9=>HSm E J m w' ms' hA h9) hS).mono ?_
   · refine (HR E J w' ms' ov lv hv x y (hl.le hJ) (hh.le hJ) (hoo.le hJ) hbx hby h9).mono ?_
     rintro e w2 ⟨lv',hv2,z,K,er,rfl,hK,h8,⟨_,_,_,_,hyes⟩|⟨_,⟨rfl,rfl,rfl,_⟩|⟨_,hlt,_⟩⟩⟩
     · exact absurd hyes hnin
     · exact ⟨z,K,rfl,hK,h8⟩
     · exact absurd hlt (by omega)
   · rintro e w' ⟨rfl,m',h1,h2⟩
     exact ⟨_,_,_,_,I,m',mk,rfl,PH.le.refl _,hl,hh,hoo,hk,h1,h2⟩
 · refine ⟨s',_,_,_,hp,by simp,fun E w I m mk ms ov lv hv kv hA hl hh hoo hk hS=>?_⟩
   refine (do_ok (s:=s) (s':=s') hl hh hoo hk ⟨hpos,hkl⟩ hqa hqb hx hy hkd (l':=l ++ [G.normT (G.joinT mv X Y)]) (h':=h ++ [0]) (rr:=rr) (t':=G.joinT mv X Y) (fun w' ms' J x y hJ hbx hby h9=>?_) (fun w' ms' J h9=>HSm E J m w' ms' hA h9) hS).mono ?_
   · refine (HR E J w' ms' ov lv hv x y (hl.le hJ) (hh.le hJ) (hoo.le hJ) hbx hby h9).mono ?_
     rintro e w2 ⟨lv',hv2,z,K,er,rfl,hK,h8,⟨_,_,_,_,hyes⟩|⟨_,⟨_,_,_,hge⟩|⟨rfl,_,g1,g2,hz⟩⟩⟩
     · exact absurd hyes hnin
     · exact absurd hge (by omega)
     · have g4:=g2
       have g3:=hz
       obtain ⟨⟨A',c',rfl⟩,_⟩:=g1.get
       obtain ⟨⟨B',d',rfl⟩,_⟩:=g4
       obtain ⟨⟨Az,cz,rfl⟩,_⟩:=g3
       exact ⟨A',_,c',B',_,d',Az,_,cz,K,rfl,hK,g1,g2,hz,h8⟩
   · rintro e w' ⟨lv',hv2,kv',J,m',mk',rfl,hJ,h1,h2,h3,h4,h5⟩
     exact ⟨_,_,_,_,J,m',mk',rfl,hJ,h1,h2,by rw [hv'];exact hoo.le hJ,h3,h4,h5⟩
theorem do_any (hn:n≤4) (hi:i<46) (p:G.PS n b i s l h ks) (hkl:ks.length≤100) (hkd:kd<256) (hqa:qa<256) (hqb:qb<256) :
 ∃ s' l' h' ks',G.PS n b (i+1) s' l' h' ks'∧ks'.length≤ks.length+1∧DoOk n b S kd qa qb v s l h ks s' l' h' ks':=by
 have hlb:l.length≤1500:=by have:=p.few;omega
 have h9:=Nat.mod_lt kd (show 0<9 by decide)
 rcases Nat.lt_or_ge (kd % 9) 4 with h4|h4
 · exact dk_mk hn hi p hlb hkl ⟨hkd,h4⟩ hqa hqb
 · by_cases e4:kd % 9=4
   · exact dk_hold hn (by omega) p hlb hkl ⟨hkd,e4⟩ hqa hqb
   by_cases e5:kd % 9=5
   · exact dk_drop hn (by omega) p hlb hkl ⟨hkd,e5⟩ hqa hqb
   by_cases e6:kd % 9=6
   · exact dk_coll hn hi p hlb hkl ⟨hkd,e6⟩ hqa hqb
   by_cases e7:kd % 9=7
   · by_cases hb:v<0∨v≥(n:Int) - 1
     · exact dk_bad hn p hlb hkl ⟨hkd,e7⟩ hqa hqb hb
     · exact dk_swap (k:=v.toNat) hn hi p hlb hkl ⟨hkd,e7⟩ hqa hqb (by omega) (by omega)
   · exact dk_not hn p hkl ⟨hkd,by omega⟩ hqa hqb
end
end Go.Proofs.YtdhkkkhnjooioaaGreat
