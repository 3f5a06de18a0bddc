import Derived.Test.YtidamcdklgfogaaGreatZab
import Derived.Test.YtidamcdklgfogaaGreatZbs
set_option linter.unusedSimpArgs false
set_option linter.unusedVariables false
set_option maxRecDepth 100000
set_option maxHeartbeats 8000000
namespace Go.Proofs.YtidamcdklgfogaaGreat
namespace G
def wideB (n:Nat) (rows:List Rw3):Bool:=rows.any fun r=>decide (r.v≥(n:Int))
def Mg.loadL (rows:List Rw3):List Int→Mg→List Nat→Option (Mg × List Nat × Nat)
 | [],m,done=>some (m,done,0)
 | root::l,m,done=>(m.do_ (load1 rows root.toNat)).bind fun x=>if x.2.2=0 then Mg.loadL rows l x.1 (done ++ [x.2.1]) else (x.1.drop (done.map fun (h:Nat)=>(h:Int))).bind fun y=>some (y.1,[],x.2.2)
def Mg.loadM (m:Mg) (rows:List Rw3) (roots:List Int):Option (Mg × List Nat × Nat):=if rightB rows roots then (if wideB m.s.vars.length rows then some (m,[],9) else Mg.loadL rows roots m []) else some (m,[],3)
structure LoadsOk (rows:List Rw3) (roots:List Int) (Gd:Mg→Nat→Prop):Prop where
 step:∀ m k root m' h,k<roots.length→Gd m k→root ∈ roots→m.do_ (load1 rows root.toNat)=some (m',h,0)→Gd m' (k+1)
 hs:∀ m k root m' h er,k<roots.length→Gd m k→root ∈ roots→m.do_ (load1 rows root.toNat)=some (m',h,er)→∀ q ∈ m'.hs,q.2<4611686018427387904
theorem wideB_row {n:Nat} {rows:List Rw3} {i:Nat} {r:Rw3} (h:rows[i]?=some r) (hb:r.v≥(n:Int)):wideB n rows=true:=List.any_eq_true.2 ⟨r,List.mem_of_getElem? h,decide_eq_true hb⟩
theorem wideB_end {n:Nat} {rows:List Rw3} (h:∀ (i:Nat) r,rows[i]?=some r→¬ r.v≥(n:Int)):wideB n rows=false:=by
 unfold wideB
 rw [List.any_eq_false]
 intro r hm
 obtain ⟨i,hi⟩:=List.getElem?_of_mem hm
 simpa using h i r hi
theorem rightB_roots {rows:List Rw3} {roots:List Int} (h:rightB rows roots=true):(∀ e ∈ roots,0≤e∧e / 2≤(rows.length:Int))∧rows.length≤4096:=by
 unfold rightB at h
 simp only [Bool.and_eq_true,decide_eq_true_eq,List.all_eq_true] at h
 refine ⟨fun e he=>?_,h.2⟩
 have:=h.1.2 e he
 unfold leadsB at this
 simpa using this
end G
section
open Go.RowKit
theorem mdo_pureI {fid D:Nat} {cs:Array Value} {Inv:G.Mg→Prop} {F:G.Mg→G.Step Nat} {bs:List PH} {E w:World} {I p:PH} (hop:∀ J:PH,I.le J→(∀ b ∈ bs,b.le J)→OpP fid cs D J Inv F) (hK:KeepsM Inv) (hD:DoOk Inv F)
  {ms:List PH} {m m':G.Mg} {h er:Nat} (hI:Inv m) (hm:m.do_ F=some (m',h,er)) (hA:MgAt D m p) (hS:Sat E I (bs ++ p::ms) w) :
  Calls Tryz.prog 60 #[vPt D,.func (.func fid) #[] cs] w fun e w'=>e=.returned (.tuple #[nv h,nv er])∧∃ p',MgAt D m' p'∧Sat E I (bs ++ p'::ms) w':=by
 obtain ⟨J,l1,l2,h2,back⟩:=Sat.iceL hS
 refine (mdo_any (hop J l1 l2) hK hD.step hD.lt hD.ne (PH.le.refl J) hI hm hA rfl ((h2.empty).perm (List.Perm.swap _ _ _))).mono ?_
 rintro e w' ⟨rfl,p',h3,h4⟩
 exact ⟨rfl,p',h3,back _ _ h4⟩
theorem NumR.intR {I:PH} {v:Value} {l:List Nat} (h:NumR I v l):IntR I v (l.map fun (h:Nat)=>(h:Int)):=by
 obtain ⟨⟨A,c,h1⟩,h2⟩:=h
 refine ⟨⟨A,c,by rw [List.length_map];exact h1⟩,fun hn=>?_⟩
 rw [List.length_map] at hn
 obtain ⟨X,c',e,h3⟩:=h2 hn
 refine ⟨X,c',by rw [List.length_map];exact e,fun i x hx=>?_⟩
 rw [List.getElem?_map] at hx
 cases hy:l[i]? with
 | none=>rw [hy] at hx;cases hx
 | some y=>rw [hy] at hx;cases hx;exact h3 i y hy
def LoadInv (rows:List G.Rw3) (roots:List Int) (Gd:G.Mg→Nat→Prop):Prop:=∀ m k root,k<roots.length→Gd m k→root ∈ roots→∃ Inv:G.Mg→Prop,Inv m∧KeepsM Inv∧LoadOk Inv rows∧DoOk Inv (G.load1 rows root.toNat)
theorem ldrop_any {E w:World} {I p1 q4 q5 mr:PH} {ms:List PH} {D:Nat} {m2 m3:G.Mg} {done:List Nat} {e3:Nat} {v:Value} (hO:OwnP mr 3 1 v done.length (done.flatMap ivC)) (hlen:done.length≤1000000) (hb:∀ q ∈ m2.hs,q.2<4611686018427387904) (hm:m2.drop (done.map fun (h:Nat)=>(h:Int))=some (m3,e3)) (hA:MgAt D m2 p1) (hS:Sat E I (q4::q5::p1::mr::ms) w) :
  Calls Tryz.prog 65 #[vPt D,v] w fun e w'=>e=.returned (nv e3)∧∃ p',MgAt D m3 p'∧Sat E I (mr::p'::q4::q5::ms) w':=by
 obtain ⟨J,l1,l2,h2,back⟩:=(hS.pick 3 rfl).ice
 refine (mdrop_any ((OwnP.num hO).intR.le l2) (by rw [List.length_map];exact hlen) hb hm hA (h2.pick 2 rfl)).mono ?_
 rintro e w' ⟨rfl,p',h3,h4⟩
 exact ⟨rfl,p',h3,back _ _ h4⟩
def LoadR (out:List Nat) (er:Nat) (e:Ending) (mr:PH):Prop:=∃ v,e=.returned (.tuple #[v,nv er])∧OwnP mr 3 1 v out.length (out.flatMap ivC)
theorem dload_any {D:Nat} {rows:List G.Rw3} {roots:List Int} {Gd:G.Mg→Nat→Prop} (hG:G.LoadsOk rows roots Gd) (hGi:LoadInv rows roots Gd) (hn:rows.length<1152921504606846976) (hmr:roots.length≤1000000) (hf:∀ r ∈ rows,RowFit r) (hg:∀ e ∈ roots,-9223372036854775808≤e∧e<9223372036854775808)
  {E w:World} {I p:PH} {ms:List PH} {m m':G.Mg} {out:List Nat} {er:Nat} {vl vr:Value} (hvl:Row3R I vl rows) (hvr:IntR I vr roots) (hm:m.loadM rows roots=some (m',out,er)) (h0:Gd m 0) (hA:MgAt D m p) (hS:Sat E I (p::ms) w) :
  Calls Tryz.prog 22 #[vPt D,vl,vr] w fun e w'=>∃ p' mr,LoadR out er e mr∧MgAt D m' p'∧Sat E I (p'::mr::ms) w':=by
 have hmf:∀ (fn:Fn) (first cap:Array Value) (w:World),(Instr.makeFunc fn first cap).run Tryz.prog w=.ok (.func fn first cap) w:=fun _ _ _ _=>rfl
 have HRt:=yH (fun (w:World) (h:I.le (Qa w))=>dright_any (hvl.le h).o (hvr.le h).ro hn (by omega) hf hg)
 have HVl:=yH hvl
 obtain ⟨A,c,rfl,hcl⟩:=hvl.shape2
 obtain ⟨B,d,rfl,hcr⟩:=hvr.shape2
 have HCl:=yH hcl
 have HCr:=yH hcr
 have HA:=yH hA
 have H0:=yH h0
 have HG:=yH hG
 have HGi:=yH hGi
 clear hvl hvr hcl hcr hf hg hA h0 hG hGi
 unfold G.Mg.loadM at hm
 cases hr:G.rightB rows roots with
 | false =>
   rw [hr] at hm HRt
   simp only [Bool.false_eq_true,if_false,Option.some.injEq,Prod.mk.injEq] at hm
   obtain ⟨rfl,rfl,rfl⟩:=hm
   go_enter Tryz.func22,Tryz.ntmps22
   go_wp2_with (first|(go_at_call 30;(with_reducible refine yI (HRt.out _ hS.ile) ?_);rintro e w2 ⟨rfl,hb⟩;replace hS:=hS.below_ hb;clear hb)|((with_reducible refine Qc ?_);first|((with_reducible refine Za 4 ?_);refine bx hS rfl rfl rfl ?_;clear hS;intro X4 w hS;(try simp only [Act.eval,zD,zC,zA,zB,zJ,Value.cells] at hS);(try simp only [Act.put,zE,zF,zG]))|((with_reducible refine Qb ?_);( (refine ld1 0 hS rfl rfl ?ha rfl rfl rfl ?_;(case ha=>exact ty_agg22)) );(try simp only [Act.put,zE,zF,zG])) ))
   go_ret2
   exact ⟨p,Xc,⟨_,rfl,OwnP.nil _ _⟩,HA.out,hS.drop.empty.pick 1 rfl⟩
 | true =>
   obtain ⟨hroots,hrl⟩:=G.rightB_roots hr
   rw [hr] at HRt hm
   simp only [if_true] at hm
   have HRo:=yH hroots
   clear hroots hr
   generalize hN:rows.length=N at *
   generalize hM:roots.length=M at *
   have HNn:=yH hN
   have HMm:=yH hM
   have HM:=yH hm
   clear hN hM hm
   go_enter Tryz.func22,Tryz.ntmps22
   go_wp2_with (first|(go_at_call 30;(with_reducible refine yI (HRt.out _ hS.ile) ?_);rintro e w2 ⟨rfl,hb⟩;replace hS:=hS.below_ hb;clear hb)|((with_reducible refine Qc ?_);first|((with_reducible refine Za 4 ?_);refine bx hS rfl rfl rfl ?_;clear hS;intro X4 w hS;(try simp only [Act.eval,zD,zC,zA,zB,zJ,Value.cells] at hS);(try simp only [Act.put,zE,zF,zG]))|((with_reducible refine Qb ?_);( (refine ld1 0 hS rfl rfl ?ha rfl rfl rfl ?_;(case ha=>exact ty_agg22)) );(try simp only [Act.put,zE,zF,zG])) ))
   go_loopw [25] (fun v25 wr=>∃ i:Nat,i≤N∧v25=.int .i64 (i:Int)∧(∀ (j:Nat) r,j<i→rows[j]?=some r→¬ r.v≥(m.s.vars.length:Int))∧Sat E I (PH.one X4 (.cells #[.slice A N c] 22)::p::ms) wr) (fun v25 _=>(N - intOf v25).toNat)
   case atStart=>exact ⟨0,Nat.zero_le _,rfl,fun j r h=>by omega,hS⟩
   case round =>
    clear hS
    obtain ⟨i,hi,rfl,hok,hS⟩:=hrel
    by_cases hlt:i<N
    · obtain ⟨r,hr⟩:∃ r,rows[i]?=some r:=⟨_,yA (by rw [HNn.out];exact hlt)⟩
      obtain ⟨Y,oY,hY,hcell⟩:=HCl.out (by omega)
      subst hY
      have hcell:=hcell i r hr
      have iN:(i:Int)<(N:Int):=by omega
      have HOk:=yH (fun (hb:¬ r.v≥(m.s.vars.length:Int)) (j:Nat) (x:G.Rw3) (hj:j<i+1) (hx:rows[j]?=some x)=>show ¬ x.v≥(m.s.vars.length:Int) by
       by_cases e:j=i
       · subst e;rw [hr] at hx;cases hx;exact hb
       · exact hok j x (by omega) hx)
      have HNo:=yH (fun (hb:r.v≥(m.s.vars.length:Int))=>G.wideB_row hr hb)
      have HVs:=yH (fun (w:World) (hM:MgR (Qa w) D m)=>mVars_any hM)
      clear hok hr HCl HCr HRt
      obtain ⟨rv,lo,hi2⟩:=r
      dsimp only at HOk HNo
      generalize hVn:m.s.vars.length=vn at *
      have HVn:=yH hVn
      clear hVn
      go_wp2_with (first|((with_reducible refine Qb ?_);(refine ldPN hS.ile rfl rfl Kt rfl hcell Qw ?_);(try simp only [Act.put,zE,zF,zG]))|((with_reducible refine Qc ?_);first|((with_reducible refine Ql 9 ?_);(refine' al (z:=_) hS rfl rfl ?ha ?_);(case ha =>  exact Zz);clear hS;intro X9 w hS;(try simp only [Value.cells] at hS);(try simp only [Act.put,zE,zF,zG]))|((with_reducible refine Qn ?_);( (refine stN 0 hS rfl rfl rfl rfl rfl ?ha rfl rfl ?_;(case ha=>exact Qw)));clear hS;intro w hS;(try simp only [zG,Act.eval,zD,zC,zA,zB,zJ,Value.cells] at hS);(try simp only [Act.put])) ))
      obtain ⟨I9,l9,m9,hS9,b9⟩:=hS.ice
      have i90:I9.at X9 0=some (.int .i64 rv):=PH.at_le m9 (Qk rfl)
      have B9:=yH b9
      have L9:=yH l9
      clear hS l9 m9 b9
      refine Zc (fun _ _=>False) [[],[0],[],[2],[0,1,2,3]] E I9 _
       [fun v _=>v=.pointer (some ⟨X9,0,none⟩),fun v _=>v=.int .i64 rv,fun v _=>v=vPt D,fun v _=>v=nv vn,fun v _=>v=.bool (decide (rv≥(vn:Int)))] []
       (fun _ _ _ ns=>ns=PH.one X4 (.cells #[.slice (some ⟨Y,oY,none⟩) N c] 22)::p::ms) (by kernel_rfl) (by kernel_rfl) (by decide) hS9 rfl ?last (fun _ _ _ _ _ _ h=>h) (fun _ _ _ _ _ _ h=>h) ?plain ?step ?hZ ?fin
      case last=>repeat (first|exact Lasting.nil|refine Lasting.cons (fun _ _ _ _ h=>h) ?_)
      case plain=>(repeat' (first|exact trivial|apply And.intro)) <;>  (refine .inr ?_;intro s vals J bs w hstop hg hJ hS hG;have hG:bs=_:=hG;subst hG;simp only [zH,zI,Given,Facts] at hg;simp only [Qd,Qh,Qe,Qj,zH,zI,zA,zB,zK,if_true,Act.put,zE,zF,zG,hg];refine ⟨?_⟩;refine Qm (fun K hK=>?_);have HK:=yH hK;clear hK;rw [if_pos (by rfl)];(first|((with_reducible refine Qs ?_);  ((refine' Qq (v:=_) hS hJ ?ha rfl ?hc ?_);(case ha=>first|exact Qf);(case hc=>assumption)) )|(go_wp2_with (first|(go_at_call 59;(with_reducible refine yI (HVs.out _ (HA.out.read.le (hS.mle (k:=1) rfl))) ?_);rintro e w2 ⟨rfl,rfl⟩))));refine HK.out _ _ ⟨rfl,J,PH.le.refl _,hS,?_⟩;clear HK;simp only [Facts];simp only [Qo,zH,zI,Act.put,zE,zF,zG,zD,zC,zA,zB,zJ])
      case step=>trivial
      case hZ=>exact fun _ _ _ _ h=>h.elim
      case fin =>
       intro vals J9 bs w hJ hg hS hG
       have hG:bs=_:=hG
       subst hG
       have hS:=B9.out _ _ (hS.less hJ)
       clear hJ hS9
       simp only [yB,yC,Nat.reduceAdd,Below_,Facts,zH,zI,true_and] at hg;simp only [yB,yC,Nat.reduceAdd,Qd,Qh,Qe,zA,zB,zK,if_true,Act.put,zE,zF,zG,hg];refine ⟨?_⟩
       clear hg
       by_cases hv:rv≥(vn:Int)
       · have hm:=HM.out
         rw [HNo.out (by omega),if_pos rfl] at hm
         simp only [Option.some.injEq,Prod.mk.injEq] at hm
         obtain ⟨rfl,rfl,rfl⟩:=hm
         have d1:decide (rv≥(vn:Int))=true:=decide_eq_true hv
         have d2:decide ((vn:Int)≤rv)=true:=decide_eq_true hv
         have d3:(vn:Int)≤rv:=hv
         clear hv HNo HOk
         go_wp2_with fail
         go_ret2
         exact ⟨p,Xc,⟨_,rfl,OwnP.nil _ _⟩,HA.out,hS.drop.drop.empty.pick 1 rfl⟩
       · have HOk2:=yH (HOk.out (by omega))
         have d1:decide (rv≥(vn:Int))=false:=decide_eq_false hv
         have d2:decide ((vn:Int)≤rv)=false:=decide_eq_false hv
         have d3:¬ (vn:Int)≤rv:=hv
         clear hv HNo HOk
         go_wp2_with (fail)
         exact ⟨⟨i+1,by omega,by go_num,(fun j r h1 h2=>by have:=HOk2.out j r h1 h2;omega),hS.drop⟩,by simp [intOf];omega⟩
    · obtain rfl:i=N:=by omega
      have hw:G.wideB m.s.vars.length rows=false:=G.wideB_end (fun j r h=>hok j r (by have:=(yE.1 h).1;rw [HNn.out] at this;exact this) h)
      have hm:=HM.out
      rw [hw] at hm
      simp only [Bool.false_eq_true,if_false] at hm
      have HM2:=yH hm
      clear hok hw hm HM HCl HRt
      go_wp2_with fail
      go_loopw [10,37] (fun v10 v37 wr=>∃ (j:Nat) (mj:G.Mg) (done:List Nat) (mr p:PH),j≤M∧v37=.int .i64 (j:Int)∧done.length=j∧OwnP mr 3 1 v10 done.length (done.flatMap ivC)∧Gd mj j∧G.Mg.loadL rows (roots.drop j) mj done=some (m',out,er)∧MgAt D mj p∧Sat E I (PH.one X4 (.cells #[.slice A i c] 22)::p::mr::ms) wr) (fun v10 v37 _=>(M - intOf v37).toNat)
      case atStart=>exact ⟨0,m,[],Xc,p,Nat.zero_le _,rfl,rfl,OwnP.nil _ _,H0.out,HM2.out,HA.out,hS.empty.perm (List.perm_middle (l₁:=[_,_])).symm⟩
      case round =>
       clear hS HA H0 HM2
       obtain ⟨j,mj,done,mr,p,hj,rfl,hdl,hO,hgd,hm,hA,hS⟩:=hrel
       by_cases hlt2:j<M
       · obtain ⟨e,he⟩:∃ e,roots[j]?=some e:=⟨_,yA (by rw [HMm.out];exact hlt2)⟩
         obtain ⟨Z,hB,hcell⟩:=HCr.out (by omega)
         subst hB
         have hcell:=hcell j e he
         have jM:(j:Int)<(M:Int):=by omega
         have hme:=List.mem_of_getElem? he
         obtain ⟨e1,e2⟩:=HRo.out e hme
         have hdr:roots.drop j=e::roots.drop (j+1):=by
          rw [List.drop_eq_getElem_cons (by rw [HMm.out];exact hlt2)]
          congr 1
          have:=yA (l:=roots) (i:=j) (by rw [HMm.out];exact hlt2)
          rw [he] at this
          injection this with this
          exact this.symm
         rw [hdr] at hm
         unfold G.Mg.loadL at hm
         obtain ⟨Inv,hI,hK,hL,hD⟩:=HGi.out _ _ _ (by rw [HMm.out];exact hlt2) hgd hme
         cases hdo:mj.do_ (G.load1 rows e.toNat) with
         | none=>rw [hdo] at hm;cases hm
         | some y =>
         obtain ⟨m2,h,er2⟩:=y
         rw [hdo] at hm
         simp only [zK] at hm
         obtain ⟨e,rfl⟩:=Int.eq_ofNat_of_zero_le e1
         simp only [Int.toNat_natCast] at hdo hm hD
         have HD:=yH (fun (w:World) (X12:Nat) (hS:Sat E I (PH.one X12 (.cells #[nv e] 3)::PH.one X4 (.cells #[.slice A i c] 22)::p::mr::ms) w)=>mdo_pureI (bs:=[PH.one X12 (.cells #[nv e] 3),PH.one X4 (.cells #[.slice A i c] 22)]) (fid:=61) (cs := #[vPt X4,vPt X12]) (fun J l1 l2=>load1_op hK (by rw [HNn.out];omega) (PH.at_le (l2 _ (.tail _ (.head _))) (Qk rfl)) (HVl.out.le l1) (PH.at_le (l2 _ (.head _)) (Qk rfl)) (by rw [HNn.out];omega) hL) hK hD hI hdo hA hS)
         have HO:=yH hO
         have HSt:=yH (fun (e0:er2=0)=>HG.out.step _ _ _ m2 h (by rw [HMm.out];exact hlt2) hgd hme (by rw [Int.toNat_natCast,hdo,e0]))
         have HHs:=yH (HG.out.hs _ _ _ m2 h er2 (by rw [HMm.out];exact hlt2) hgd hme (by rw [Int.toNat_natCast,hdo]))
         clear hO hK hL hD hI hdo hA hgd hdr he e1 e2 HCr
         by_cases h0:er2=0
         · subst h0
           have hst:=HSt.out rfl
           rw [if_pos rfl] at hm
           have HSt2:=yH hst
           have HM3:=yH hm
           clear hst hm HHs
           have hO:=HO.out
           go_wp2_with (first|(go_at_call 60;(with_reducible refine yI (HD.out _ _ hS) ?_);clear hS;rintro e' w ⟨rfl,p1,hA1,hS⟩;have HA1:=yH hA1;clear hA1;simp only [List.cons_append,List.nil_append] at hS)|(at_builtin;(refine' apP (p:=_) (m:=_) (v:=_) (n:=_) (xs:=_) (news:=_) 4 (.inr (List.Mem.head _)) hS rfl rfl rfl Tryz.underlying23 int_info rfl (by decide) rfl ?hown rfl ?hl ?hcl ?h1 ?h63 ?hby ?_);(case hown=>assumption);(case hcl=>exact Cells.one _ _ _ _);(case hl=>rfl);(case h1=>rfl);(case h63=>go_light;unfold maxLen;omega);(case hby=>go_light;omega);clear hS hO;intro v1 m1 w hO hS;(try simp only [zF,zG] at hS);(try simp only [Act.put,zE,zF,zG]))|((with_reducible refine Qc ?_);first|((with_reducible refine Ql 12 ?_);(refine' al (z:=_) hS rfl rfl ?ha ?_);(case ha=>exact ty_z3);clear hS;intro X12 w hS;(try simp only [Value.cells] at hS);(try simp only [Act.put,zE,zF,zG]))|((with_reducible refine Xa 55 ?_);(refine' bsl hS ?hr ?_);(case hr=>(intro w0;go_simp;try rfl));clear hS;intro XS w hS;(try simp only [Act.eval,zD,zC,zA,zB,zJ,Value.cells] at hS);(try simp only [Act.put,zE,zF,zG]))|((with_reducible refine Qb ?_);( ((refine' Ka (v:=_) hS rfl rfl ?ha rfl ?hb ?_);(case ha=>exact Qf);(case hb=>assumption)));(try simp only [Act.put,zE,zF,zG]))|((with_reducible refine Qn ?_);(first|(refine st1 0 hS rfl rfl rfl rfl rfl ?ha rfl rfl ?hb ?_;(case ha=>exact Kk);(case hb=>(simp;done))));clear hS;intro w hS;(try simp only [zG,zE,Act.eval,zD,zC,zA,zB,zJ] at hS);(try simp only [Act.put])) ))
           exact ⟨⟨j+1,m2,done ++ [h],m1,p1,by omega,by go_num,by rw [yG,hdl];rfl,by rw [yG,List.flatMap_append];exact hO,HSt2.out,HM3.out,HA1.out,hS.drop.drop⟩,by simp [intOf];omega⟩
         · rw [if_neg h0] at hm
           have d1:((er2:Int) != 0)=true:=by simp;omega
           cases hdp:m2.drop (done.map fun (h:Nat)=>(h:Int)) with
           | none=>rw [hdp] at hm;cases hm
           | some y =>
             obtain ⟨m3,e3⟩:=y
             rw [hdp] at hm
             simp only [zK,Option.some.injEq,Prod.mk.injEq] at hm
             obtain ⟨rfl,rfl,rfl⟩:=hm
             have HDr:=yH (fun (w:World) (p1 q4 q5:PH) (hA1:MgAt D m2 p1) (hS:Sat E I (q4::q5::p1::mr::ms) w)=>ldrop_any HO.out (by omega) HHs.out hdp hA1 hS)
             clear hdp h0 HSt HHs HGi HG HRo HMm HNn HVl
             go_wp2_with (first|(go_at_call 60;(with_reducible refine yI (HD.out _ _ hS) ?_);clear hS;rintro e' w ⟨rfl,p1,hA1,hS⟩;have HA1:=yH hA1;clear hA1;simp only [List.cons_append,List.nil_append] at hS)|(go_at_call 65;(with_reducible refine yI (HDr.out _ _ _ _ HA1.out hS) ?_);clear hS;rintro e' w ⟨rfl,p2,hA2,hS⟩;have HA2:=yH hA2;clear hA2)|((with_reducible refine Qc ?_);first|((with_reducible refine Ql 12 ?_);(refine' al (z:=_) hS rfl rfl ?ha ?_);(case ha=>exact ty_z3);clear hS;intro X12 w hS;(try simp only [Value.cells] at hS);(try simp only [Act.put,zE,zF,zG]))|((with_reducible refine Qb ?_);( ((refine' Ka (v:=_) hS rfl rfl ?ha rfl ?hb ?_);(case ha=>exact Qf);(case hb=>assumption)));(try simp only [Act.put,zE,zF,zG]))|((with_reducible refine Qn ?_);(first|(refine st1 0 hS rfl rfl rfl rfl rfl ?ha rfl rfl ?hb ?_;(case ha=>exact Kk);(case hb=>(simp;done))));clear hS;intro w hS;(try simp only [zG,zE,Act.eval,zD,zC,zA,zB,zJ] at hS);(try simp only [Act.put])) ))
             go_ret2
             exact ⟨p2,Xc,⟨_,rfl,OwnP.nil _ _⟩,HA2.out,((hS.sub (.cons _ (.cons_cons _ (.cons _ (.cons _ (List.Sublist.refl _)))))).empty.pick 1 rfl)⟩
       · obtain rfl:j=M:=by omega
         rw [List.drop_of_length_le (by rw [HMm.out];exact Nat.le_refl _)] at hm
         unfold G.Mg.loadL at hm
         simp only [Option.some.injEq,Prod.mk.injEq] at hm
         obtain ⟨rfl,rfl,rfl⟩:=hm
         have HO:=yH hO
         have HA:=yH hA
         clear hO hA hgd HG HGi HRo
         go_wp2_with fail
         go_ret2
         exact ⟨p,mr,⟨_,rfl,HO.out⟩,HA.out,hS.drop⟩
end
namespace G
theorem foldE_cons (F:Mg→Nat→Nat→Step Nat) (h:Int) (l:List Int) (m:Mg) (r:Nat):foldE F (h::l) m r=((m.edge h).then fun m e=>F m r e).then fun m r=>foldE F l m r:=by
 rw [Step.then_assoc];rfl
theorem foldE_append (F:Mg→Nat→Nat→Step Nat):∀ (a b:List Int) (m:Mg) (r:Nat),foldE F (a ++ b) m r=(foldE F a m r).then fun m r=>foldE F b m r
 | [],b,m,r=>rfl
 | h::a,b,m,r=>by
   rw [List.cons_append,foldE_cons,foldE_cons]
   generalize ((m.edge h).then fun m e=>F m r e)=s
   rw [Step.then_assoc]
   congr 1
   funext m k
   exact foldE_append F a b m k
end G
section
open Go.RowKit
theorem ty_agg185:Kz Tryz.prog 185=some false:=by kernel_rfl
structure TwoC (fid:Nat) (F:G.Mg→Nat→Nat→G.Step Nat):Prop where
 enter:∀ (args:Array Value) (w:World),(callFunc fid args).run Tryz.prog w=.ok (.enter fid args) w
 run:∀ (m m':G.Mg) (a b:Nat) (rs:G.Rs Nat) (E:World) (I p:PH) (ms:List PH) (w:World) (X D:Nat),F m a b=some (m',rs)→Sane m.s→a<4611686018427387904→b<4611686018427387904→I.at X 0=some (vPt D)→MgAt D m p→Sat E I (p::ms) w →
  Calls Tryz.prog fid #[vPt X,nv a,nv b] w fun e w'=>e=endE nv rs∧∃ p',MgAt D m' p'∧Sat E I (p'::ms) w'
theorem and_two:TwoC 74 G.andE where
 enter:=fun args w=>by kernel_rfl
 run:=by
  intro m m' a b rs E I p ms w X D hF hs ha hb hX hA hS
  have HI:=yH (xite_any X D G.fuel m m' a b 1 rs hF hs ha hb (by decide) E I p ms w hX hA hS)
  clear hF hs hA
  cases rs with
  | ok r =>
    simp only [endE] at HI
    go_enter Tryz.func74,Tryz.ntmps74
    go_wp2_with (go_at_call 64;(with_reducible refine yI HI.out ?_);clear hS;rintro e w ⟨rfl,_,_,p1,hA1,hS⟩;have HA1:=yH hA1;clear hA1)
    go_ret
    exact ⟨rfl,p1,HA1.out,hS⟩
  | stop st =>
    simp only [endE] at HI
    go_enter Tryz.func74,Tryz.ntmps74
    go_wp2_with (go_at_call 64;(with_reducible refine yI HI.out ?_);clear hS;rintro e w ⟨rfl,_,_,p1,hA1,hS⟩;have HA1:=yH hA1;clear hA1)
    refine ⟨rfl,?_⟩
    exact And.intro rfl ⟨p1,HA1.out,hS⟩
def FoldOk (Inv:G.Mg→Prop) (F:G.Mg→Nat→Nat→G.Step Nat) (l:List Int) (r0:Nat):Prop:=∀ m,Inv m→∀ i mi r,G.foldE F (l.take i) m r0=some (mi,.ok r)→Inv mi∧r<4611686018427387904
theorem fold1_op {D X1 X2 X3 fid r0:Nat} {F:G.Mg→Nat→Nat→G.Step Nat} {J:PH} {Inv:G.Mg→Prop} (hK:KeepsM Inv) (hC:TwoC fid F) {l:List Int} {vl:Value} (hl:l.length≤1000000) (h1:J.at X1 0=some (nv r0)) (h2:J.at X2 0=some vl) (hvl:IntR J vl l) (h3:J.at X3 0=some (.func (.func fid) #[] #[])) (hP:FoldOk Inv F l r0) :
  OpP 117 #[vPt X1,vPt X2,vPt X3] D J Inv (fun m=>G.foldE F l m r0) where
 enter:=fun args w=>by kernel_rfl
 run:=by
  intro E I p q0 ms w m m' rs X hJ1 hI hF hX hA hq hS
  subst hq
  have hent:=hC.enter
  have i1:I.at X1 0=some (nv r0):=PH.at_le hJ1 h1
  have i2:I.at X2 0=some vl:=PH.at_le hJ1 h2
  have i3:I.at X3 0=some (.func (.func fid) #[] #[]):=PH.at_le hJ1 h3
  obtain ⟨A,c,rfl,hcells⟩:=(hvl.le hJ1).shape2
  have HC:=yH hcells
  have HA:=yH hA
  have HF:=yH hF
  have HI:=yH hI
  have HCr:=yH hC.run
  have HKm:=yH hK
  have HP:=yH hP
  clear hJ1 h1 h2 h3 hvl hcells hA hF hI hC hK hP
  generalize hN:l.length=N at *
  have HN0:=yH hN
  clear hN
  show Calls _ _ #[vPt X,vPt X1,vPt X2,vPt X3] _ _
  go_enter Tryz.func117,Tryz.ntmps117
  go_wp2_with (first|((with_reducible refine Qc ?_);first|((with_reducible refine Qb ?_);( ((refine' Ka (v:=_) hS rfl rfl ?ha rfl ?hb ?_);(case ha=>first|exact Ki|exact Kn );(case hb=>assumption)));(try simp only [Act.put,zE,zF,zG]))))
  go_loopw [6,12] (fun v6 v12 wr=>∃ (i:Nat) (mi:G.Mg) (r:Nat) (p:PH),i≤N∧v12=.int .i64 (i:Int)∧v6=nv r∧G.foldE F (l.take i) m r0=some (mi,.ok r)∧MgAt D mi p∧Sat E I (p::Xc::ms) wr) (fun v6 v12 _=>(N - intOf v12).toNat)
  case atStart=>exact ⟨0,m,r0,p,Nat.zero_le _,rfl,rfl,rfl,HA.out,hS⟩
  case round =>
   clear hS HA
   obtain ⟨i,mi,r,p,hi,rfl,rfl,hpre,hA,hS⟩:=hrel
   obtain ⟨hIi,hr⟩:=HP.out _ HI.out _ _ _ hpre
   have hf:=HF.out
   by_cases hlt:i<N
   · obtain ⟨k,hk⟩:∃ k,l[i]?=some k:=⟨_,yA (by rw [HN0.out];exact hlt)⟩
     obtain ⟨Y,hY,hcell⟩:=HC.out (by omega)
     subst hY
     have hcell:=hcell i k hk
     have iN:(i:Int)<(N:Int):=by omega
     have htk:l.take (i+1)=l.take i ++ [k]:=by rw [List.take_add_one,hk];rfl
     have hsplit:l=l.take i ++ k::l.drop (i+1):=by
      have e2:l.drop i=k::l.drop (i+1):=by
       rw [List.drop_eq_getElem_cons (by rw [HN0.out];exact hlt)]
       congr 1
       have:=yA (l:=l) (i:=i) (by rw [HN0.out];exact hlt)
       rw [hk] at this
       injection this with this
       exact this.symm
      rw [← e2,List.take_append_drop]
     rw [hsplit,G.foldE_append,hpre] at hf
     simp only [G.Step.then_ok2] at hf
     rw [G.foldE_cons] at hf
     have hpre':∀ e m2 r2,mi.of k=some e→F mi r e=some (m2,.ok r2)→G.foldE F (l.take (i+1)) m r0=some (m2,.ok r2):=fun e m2 r2 h1 h2=>by
      rw [htk,G.foldE_append,hpre]
      simp only [G.Step.then_ok2]
      rw [G.foldE_cons]
      unfold G.Mg.edge
      rw [h1]
      simp only [G.Step.then_ok2]
      rw [h2];rfl
     unfold G.Mg.edge at hf
     have HA:=yH hA
     clear hsplit htk hk HC
     cases hok:mi.of k with
     | none =>
       have e:m'=mi∧rs=.stop (.err 8):=by rw [hok] at hf;cases hf;exact ⟨rfl,rfl⟩
       obtain ⟨rfl,rfl⟩:=e
       have HE:=yH (fun (w:World) (hX:(Qa w).at X 0=some (vPt D)) (hM:MgR (Qa w) D m')=>xedge_no hX hM k hok)
       clear hf hpre hpre' hok hA hIi HF HP HKm HI HCr
       go_wp2_with (first|((with_reducible refine Qc ?_);first|((with_reducible refine Qb ?_);( ((refine' Ka (v:=_) hS rfl rfl ?ha rfl ?hb ?_);(case ha=>exact Qf);(case hb=>assumption)));(try simp only [Act.put,zE,zF,zG]))))
       refine Zc (fun c w'=>c=stopE (.err 8)∧Sat E I (p::Xc::ms) w') [[],[],[],[],[],[3,4],[0,1,2,3,4,5],[0,1,2,3,4,5,6]] E I _
        [fun v _=>v=.func (.func fid) #[] #[],fun v _=>v=vPt X,fun v _=>v=nv r,fun v _=>v=vPt X,fun v _=>v=.int .i64 k,fun _ _=>False,fun _ _=>True,fun _ _=>True] []
        (fun _ _ _ bs=>bs=p::Xc::ms) (by kernel_rfl) (by kernel_rfl) (by decide) hS rfl ?last (fun _ _ _ _ _ _ h=>h) (fun _ _ _ _ _ _ h=>h) ?plain ?step ?hZ ?fin
       case last=>repeat (first|exact Lasting.nil|refine Lasting.cons (fun _ _ _ _ h=>h) ?_)
       case plain =>
        clear hS
        refine ⟨⟨⟨⟨⟨⟨⟨⟨trivial,?q0⟩,?q1⟩,?q2⟩,?q3⟩,?q4⟩,?q5⟩,?q6⟩,?q7⟩
        case q5=>refine .inr ?_;intro s vals J bs w hstop hg hJ hS hG;have hG:bs=_:=hG;subst hG;simp only [zH,zI,Given,Facts] at hg;simp only [Qd,Qh,Qe,Qj,zH,zI,zA,zB,zK,if_true,Act.put,zE,zF,zG,hg];refine ⟨?_⟩;refine Qm (fun K hK=>?_);have HK:=yH hK;clear hK;rw [if_pos (by rfl)];go_wp2_with (go_at_call 55;(with_reducible refine yI (HE.out _ (PH.at_le hS.ile (PH.at_le hJ hX)) (HA.out.read.le (hS.mle (k:=0) rfl))) ?_);rintro e w2 ⟨rfl,rfl⟩);exact And.intro rfl (hS.less hJ)
        all_goals first|(refine .inr ?_;intro s vals J bs w hstop hg hJ hS hG;exfalso;simp only [zH,zI,Given,Facts,and_false,false_and] at hg;done)|(refine .inr ?_;intro s vals J bs w hstop hg hJ hS hG;clear hG;simp only [zH,zI,Given,Facts] at hg;simp only [Qd,Qh,Qe,Qj,zH,zI,zA,zB,zK,if_true,Act.put,zE,zF,zG];refine ⟨?_⟩;refine Qm (fun K hK=>?_);have HK:=yH hK;clear hK;rw [if_pos (by rfl)];(first|((with_reducible refine Qs ?_);  ((refine' Qq (v:=_) hS hJ ?ha rfl ?hc ?_);(case ha=>first|exact ty_agg185);(case hc=>assumption)) )|(go_wp2_with (fail)));refine HK.out _ _ ⟨rfl,J,PH.le.refl _,hS,?_⟩;clear HK;simp only [Facts];simp only [Qo,zH,zI,Act.put,zE,zF,zG,zD,zC,zA,zB,zJ])
       case step=>trivial
       case hZ =>
        rintro c b w' hd ⟨rfl,hS'⟩
        exact ⟨hd,rfl,p,Xc,HA.out,rfl,hS'⟩
       case fin =>
        intro vals J9 bs w hJ hg hS hG
        exact False.elim (by simp only [yB,yC,Nat.reduceAdd,Below_,Facts,zH,zI,true_and,and_true] at hg;simp at hg)
     | some f =>
       have HE:=yH (fun (w:World) (hX:(Qa w).at X 0=some (vPt D)) (hM:MgR (Qa w) D mi)=>xedge_ok hX hM k hok)
       rw [hok] at hf
       simp only [G.Step.then_ok2] at hf
       cases hm2:F mi r f with
       | none=>rw [hm2] at hf;cases hf
       | some z =>
         obtain ⟨m2,r2⟩:=z
         have HFn:=yH (fun (J p:PH) (ns:List PH) (w:World) (hX:J.at X 0=some (vPt D)) (hA:MgAt D mi p) (hS:Sat E J (p::ns) w)=>HCr.out mi m2 r f r2 E J p ns w X D hm2 (HKm.out.sane _ hIi) hr (HKm.out.ofl _ _ _ hIi hok) hX hA hS)
         rw [hm2] at hf
         cases r2 with
         | stop st =>
           have e:m'=m2∧rs=.stop st:=by cases hf;exact ⟨rfl,rfl⟩
           obtain ⟨rfl,rfl⟩:=e
           simp only [endE] at HFn
           clear hf hpre hpre' hok hm2 hA hIi HF HP HKm HI HCr
           go_wp2_with (first|((with_reducible refine Qc ?_);first|((with_reducible refine Qb ?_);( ((refine' Ka (v:=_) hS rfl rfl ?ha rfl ?hb ?_);(case ha=>exact Qf);(case hb=>assumption)));(try simp only [Act.put,zE,zF,zG]))))
           refine Zc (fun c w'=>c=stopE st∧∃ p2,MgAt D m' p2∧Sat E I (p2::Xc::ms) w') [[],[],[],[],[],[3,4],[0,1,2,3,4,5],[0,1,2,3,4,5,6]] E I _
            [fun v _=>v=.func (.func fid) #[] #[],fun v _=>v=vPt X,fun v _=>v=nv r,fun v _=>v=vPt X,fun v _=>v=.int .i64 k,fun v _=>v=nv f,fun _ _=>False,fun _ _=>True] []
            (fun _ _ _ bs=>bs=p::Xc::ms) (by kernel_rfl) (by kernel_rfl) (by decide) hS rfl ?last (fun _ _ _ _ _ _ h=>h) (fun _ _ _ _ _ _ h=>h) ?plain ?step ?hZ ?fin
           case last=>repeat (first|exact Lasting.nil|refine Lasting.cons (fun _ _ _ _ h=>h) ?_)
           case plain =>
            clear hS
            refine ⟨⟨⟨⟨⟨⟨⟨⟨trivial,?t0⟩,?t1⟩,?t2⟩,?t3⟩,?t4⟩,?t5⟩,?t6⟩,?t7⟩
            case t5=>refine .inr ?_;intro s vals J bs w hstop hg hJ hS hG;have hG:bs=_:=hG;subst hG;simp only [zH,zI,Given,Facts] at hg;simp only [Qd,Qh,Qe,Qj,zH,zI,zA,zB,zK,if_true,Act.put,zE,zF,zG,hg];refine ⟨?_⟩;refine Qm (fun K hK=>?_);have HK:=yH hK;clear hK;rw [if_pos (by rfl)];go_wp2_with (go_at_call 55;(with_reducible refine yI (HE.out _ (PH.at_le hS.ile (PH.at_le hJ hX)) (HA.out.read.le (hS.mle (k:=0) rfl))) ?_);rintro e w2 ⟨rfl,rfl⟩);exact HK.out _ _ ⟨rfl,J,PH.le.refl _,hS,rfl⟩
            case t6=>refine .inr ?_;intro s vals J bs w hstop hg hJ hS hG;have hG:bs=_:=hG;subst hG;simp only [zH,zI,Given,Facts] at hg;simp only [Qd,Qh,Qe,Qj,zH,zI,zA,zB,zK,if_true,Act.put,zE,zF,zG,hg];refine ⟨?_⟩;refine Qm (fun K hK=>?_);have HK:=yH hK;clear hK;rw [if_pos (by rfl)];go_wp2_with (first|((with_reducible refine yI (HFn.out _ _ _ _ (PH.at_le hJ hX) HA.out hS) ?_);clear hS;rintro e w ⟨rfl,p2,hA2,hS⟩;have HA2:=yH hA2;clear hA2));exact And.intro rfl ⟨p2,HA2.out,hS.less hJ⟩
            all_goals first|(refine .inr ?_;intro s vals J bs w hstop hg hJ hS hG;exfalso;simp only [zH,zI,Given,Facts,and_false,false_and] at hg;done)|(refine .inr ?_;intro s vals J bs w hstop hg hJ hS hG;clear hG;simp only [zH,zI,Given,Facts] at hg;simp only [Qd,Qh,Qe,Qj,zH,zI,zA,zB,zK,if_true,Act.put,zE,zF,zG];refine ⟨?_⟩;refine Qm (fun K hK=>?_);have HK:=yH hK;clear hK;rw [if_pos (by rfl)];(first|((with_reducible refine Qs ?_);  ((refine' Qq (v:=_) hS hJ ?ha rfl ?hc ?_);(case ha=>first|exact ty_agg185);(case hc=>assumption)) )|(go_wp2_with (fail)));refine HK.out _ _ ⟨rfl,J,PH.le.refl _,hS,?_⟩;clear HK;simp only [Facts];simp only [Qo,zH,zI,Act.put,zE,zF,zG,zD,zC,zA,zB,zJ])
           case step=>trivial
           case hZ =>
            rintro c b w' hd ⟨rfl,p2,hA2,hS'⟩
            exact ⟨hd,rfl,p2,Xc,hA2,rfl,hS'⟩
           case fin =>
            intro vals J9 bs w hJ hg hS hG
            exact False.elim (by simp only [yB,yC,Nat.reduceAdd,Below_,Facts,zH,zI,true_and,and_true] at hg;simp at hg)
         | ok r2 =>
           have HPre:=yH (hpre' _ _ _ hok hm2)
           simp only [endE] at HFn
           clear hf hpre hpre' hok hm2 hA hIi
           go_wp2_with (first|((with_reducible refine Qc ?_);first|((with_reducible refine Qb ?_);( ((refine' Ka (v:=_) hS rfl rfl ?ha rfl ?hb ?_);(case ha=>exact Qf);(case hb=>assumption)));(try simp only [Act.put,zE,zF,zG]))))
           refine Zc (fun c w'=>False) [[],[],[],[],[],[3,4],[0,1,2,3,4,5],[0,1,2,3,4,5,6]] E I _
            [fun v _=>v=.func (.func fid) #[] #[],fun v _=>v=vPt X,fun v _=>v=nv r,fun v _=>v=vPt X,fun v _=>v=.int .i64 k,fun v _=>v=nv f,fun v _=>v=nv r2,fun v _=>v=nv r2] [6]
            (set1G (p::Xc::ms) 0 (fun p'=>MgAt D m2 p')) (by kernel_rfl) (by kernel_rfl) (by decide) hS rfl ?last (fun _ _ _ _ _ _ h=>h) (fun _ _ _ _ _ _ h=>h) ?plain ?step ?hZ ?fin
           case last=>repeat (first|exact Lasting.nil|refine Lasting.cons (fun _ _ _ _ h=>h) ?_)
           case hZ=>exact fun _ _ _ _ h=>h.elim
           case plain =>
            clear hS
            refine ⟨⟨⟨⟨⟨⟨⟨⟨trivial,?r0⟩,?r1⟩,?r2⟩,?r3⟩,?r4⟩,?r5⟩,.inl rfl⟩,?r7⟩
            case r5=>refine .inr ?_;intro s vals J bs w hstop hg hJ hS hG;have h0:s≤0:=hstop;obtain rfl:s=0:=Nat.le_zero.1 h0;have hG:bs=_:=hG;subst hG;simp only [zH,zI,Given,Facts] at hg;simp only [Qd,Qh,Qe,Qj,zH,zI,zA,zB,zK,if_true,Act.put,zE,zF,zG,hg];refine ⟨?_⟩;refine Qm (fun K hK=>?_);have HK:=yH hK;clear hK;rw [if_pos (by rfl)];go_wp2_with (go_at_call 55;(with_reducible refine yI (HE.out _ (PH.at_le hS.ile (PH.at_le hJ hX)) (HA.out.read.le (hS.mle (k:=0) rfl))) ?_);rintro e w2 ⟨rfl,rfl⟩);exact HK.out _ _ ⟨rfl,J,PH.le.refl _,hS,rfl⟩
            all_goals (refine .inr ?_;intro s vals J bs w hstop hg hJ hS hG;clear hG;simp only [zH,zI,Given,Facts] at hg;simp only [Qd,Qh,Qe,Qj,zH,zI,zA,zB,zK,if_true,Act.put,zE,zF,zG,hg];refine ⟨?_⟩;refine Qm (fun K hK=>?_);have HK:=yH hK;clear hK;rw [if_pos (by rfl)];(first|((with_reducible refine Qs ?_);  ((refine' Qq (v:=_) hS hJ ?ha rfl ?hc ?_);(case ha=>first|exact ty_agg185);(case hc=>assumption)) )|(go_wp2_with (fail)));refine HK.out _ _ ⟨rfl,J,PH.le.refl _,hS,?_⟩;clear HK;simp only [Facts];simp only [Qo,zH,zI,Act.put,zE,zF,zG,zD,zC,zA,zB,zJ])
           case step =>
            refine ⟨trivial,?_⟩
            clear hS
            intro vals J bs w hg hJ hS hG
            have hG:bs=_:=hG
            subst hG
            simp only [zH,zI,Given,Facts] at hg;simp only [Qd,Qh,Qe,Qj,zH,zI,zA,zB,zK,if_true,Act.put,zE,zF,zG,hg];refine ⟨?_⟩;refine Qm (fun K hK=>?_);have HK:=yH hK;clear hK;rw [if_pos (by rfl)]
            go_wp2_with (first|((with_reducible refine yI (HFn.out _ _ _ _ (PH.at_le hJ hX) HA.out hS) ?_);clear hS;rintro e w ⟨rfl,p2,hA2,hS⟩;have HA2:=yH hA2;clear hA2))
            exact HK.out _ _ ⟨rfl,J,_,PH.le.refl _,hS,rfl,p2,HA2.out,rfl⟩
           case fin =>
            intro vals J9 bs w hJ hg hS hG
            obtain ⟨p2,hA2,hns⟩:=hG
            subst hns
            have hS:=hS.less hJ
            simp only [zG] at hS
            have HA2:=yH hA2
            clear hJ hA2 HFn HE
            simp only [yB,yC,Nat.reduceAdd,Below_,Facts,zH,zI,true_and] at hg;simp only [yB,yC,Nat.reduceAdd,Qd,Qh,Qe,zA,zB,zK,if_true,Act.put,zE,zF,zG,hg];refine ⟨?_⟩
            clear hg
            go_wp2_with (fail)
            exact ⟨⟨i+1,m2,r2,p2,by omega,by go_num,rfl,HPre.out,HA2.out,hS⟩,by simp [intOf];omega⟩
   · obtain rfl:i=N:=by omega
     have e:l.take i=l:=List.take_of_length_le (by rw [HN0.out];exact Nat.le_refl _)
     rw [e,hf] at hpre
     have e:m'=mi∧rs=.ok r:=by cases hpre;exact ⟨rfl,rfl⟩
     obtain ⟨rfl,rfl⟩:=e
     have HA:=yH hA
     clear hf hpre hIi HF HP HKm HI HC hA HCr
     go_wp2_with fail
     go_ret
     exact ⟨rfl,p,Xc,HA.out,rfl,hS⟩
end
end Go.Proofs.YtidamcdklgfogaaGreat
