import Derived.Test.YtdhkkkhnjooioaaGreatZbw
set_option linter.unusedSimpArgs false
set_option linter.unusedVariables false
namespace Go.Proofs.YtdhkkkhnjooioaaGreat.G
variable {B:Nat} {s:St}
theorem StOk.all_nodes (h:StOk B s):s.pl.all=s.nodes:=by
 unfold G.St.nodes G.Pl.all
 rw [show s.pl.slots=none::s.pl.slots.drop 1 from h.pl.cons]
 rfl
theorem nodesFrom_pw:∀ (l:List (Option Nd)) (k:Nat),(nodesFrom k l).Pairwise fun a b=>a.1<b.1
 | [],k=>List.Pairwise.nil
 | none::l,k=>nodesFrom_pw l (k+1)
 | some m::l,k=>List.Pairwise.cons (fun b hb=>by
  obtain ⟨i,n⟩:=b
  have:=((mem_nodesFrom l (k+1) i n).1 hb).1
  show k<i
  omega) (nodesFrom_pw l (k+1))
theorem nodes_lt {i:Nat} {a b:Nat × Nd} (h1:s.nodes[i]?=some a) (h2:s.nodes[i+1]?=some b):a.1<b.1:=by
 obtain ⟨g1,rfl⟩:=List.getElem?_eq_some_iff.1 h1
 obtain ⟨g2,rfl⟩:=List.getElem?_eq_some_iff.1 h2
 exact List.pairwise_iff_getElem.1 (nodesFrom_pw _ _) i (i+1) g1 g2 (by omega)
end Go.Proofs.YtdhkkkhnjooioaaGreat.G
namespace Go.Proofs.YtdhkkkhnjooioaaGreat
open Go.RowKit
theorem want_no {c:Bool} {p q:Prop} (h:c=false) (k:q):(if c=true then p else q):=by rw [h];exact k
set_option maxRecDepth 100000 in
set_option maxHeartbeats 16000000 in
theorem listed_fz {E w:World} {I:PH} {ms:List PH} {S B b:Nat} {ov lv hv:Value} {l:List G.Tb} {h:List Nat} {s:G.St} (hR:StR I S s) (ok:G.StOk B s) (hr:G.Rel s l h) (hl:RowsR I lv l) (hh:NumR I hv h) (hoo:NumR I ov s.vars) (hbr:s.pl.room=b) (hn:s.vars.length≤4) (hb:l.length≤1500) (hS:Sat E I ms w) :
 Calls Tryz.prog 42 #[vPt S,.agg #[nv s.vars.length,nv b,ov,lv,hv]] w fun e w'=>e=.returned (.bool true)∧Sat E I ms w':=by
 have hRw:=fun (w':World) (ms':List PH) (J:PH) (hJ:I.le J) (h9:Sat E J ms' w')=>hR.le (PH.le.trans hJ h9.ile)
 have hql:s.nodes.length=l.length:=by rw [G.length_nodes ok.pl,hr.many ok]
 have hal:(s.pl.all.take 9999)=s.nodes:=by rw [ok.all_nodes,List.take_of_length_le (by omega)]
 have HAl:=Lib.hid (fun (w':World) (ms':List PH) (J:PH) (hJ:I.le J) (h9:Sat E J ms' w')=>show Calls Tryz.prog 73 #[vPt S,.int .i64 9999] w' (fun e w''=>∃ v mo,e=.returned v∧OwnP mo 96 5 v l.length (s.nodes.flatMap ndR)∧Sat E J (mo::ms') w'') from (sall_any 9999 (hR.le hJ) (by decide) h9).mono (by
  rintro e w2 ⟨v,mo,rfl,hO,h8⟩
  rw [hal,hql] at hO
  exact ⟨v,mo,rfl,hO,h8⟩))
 have hpk:∀ i,i<l.length→∃ id nd,s.nodes[i]?=some (id,nd)∧1≤id∧id≤b∧nd.lo≠nd.hi∧nd.hi % 2=0∧id<4194304∧s.tb (2 * id) ∈ l ∧
  (∀ ip,i=ip+1→∃ idp ndp,s.nodes[ip]?=some (idp,ndp)∧idp<id) ∧
  (∀ (w':World) (ms':List PH) (J:PH),I.le J→Sat E J ms' w'→Calls Tryz.prog 41 #[vPt S,nv (2 * id)] w' fun e w''=>e=.returned (.tuple #[nv nd.v,nv nd.lo,nv nd.hi,.bool true])∧Sat E J ms' w'') ∧
  (∀ (w':World) (ms':List PH) (J:PH),I.le J→Sat E J ms' w'→Calls Tryz.prog 18 #[vPt S,nv (2 * id),nv s.vars.length] w' fun e w''=>∃ xb XL xc K,e=.returned (.slice (some ⟨xb,0,none⟩) XL xc)∧J.le K∧BoolR K (.slice (some ⟨xb,0,none⟩) XL xc) (s.tb (2 * id))∧Sat E K ms' w'') ∧
  (∀ (w':World) (ms':List PH) (J:PH) (x:Value),I.le J→BoolR J x (s.tb (2 * id))→Sat E J ms' w'→Calls Tryz.prog 63 #[lv,x] w' fun e w''=>e=.returned (nv (l.idxOf (s.tb (2 * id))))∧Sat E J ms' w'') ∧
  (∀ (w':World) (ms':List PH) (J:PH) (x:Value),I.le J→BoolR J x (s.tb (2 * id))→Sat E J ms' w'→Calls Tryz.prog 40 #[.agg #[nv s.vars.length,nv b,ov,lv,hv],x] w' fun e w''=>e=.returned (nv nd.refs)∧Sat E J ms' w'') ∧
  (∀ (w':World) (ms':List PH) (J:PH),I.le J→Sat E J ms' w'→Calls Tryz.prog 39 #[vPt S,nv (2 * id)] w' fun e w''=>e=.returned (nv nd.refs)∧Sat E J ms' w''):=fun i hi=>by
  obtain ⟨id,nd⟩:Nat × G.Nd:=s.nodes[i]'(by omega)
  have h1:s.nodes[i]?=some (s.nodes[i]'(by omega)):=List.getElem?_eq_getElem (by omega)
  generalize hxx:s.nodes[i]'(by omega)=xx at *
  obtain ⟨id,nd⟩:=xx
  have hnd:s.nd id=some nd:=G.mem_nodes.1 (List.mem_of_getElem? h1)
  have hlt:=G.Pl.nd_lt (p:=s.pl) (id:=id) (by show (s.nd id).isSome=true;rw [hnd];rfl)
  have hpl:=ok.pl.len
  have hid0:id≠0:=fun e=>by rw [e,show s.nd 0=none from ok.can.toAcyc.g0] at hnd;cases hnd
  have kn:G.Kn s (2 * id) (s.tb (2 * id)):=⟨G.val2 hnd,rfl⟩
  have hF:=ok.val_lt kn.v
  have hp:2 ^ s.vars.length≤16:=Nat.le_trans (Nat.pow_le_pow_right (show (2:Nat) > 0 by decide) hn) (by decide)
  have hp0:=Nat.two_pow_pos s.vars.length
  have hX:(s.tb (2 * id)).length=2 ^ s.vars.length:=G.tb_length _ _
  have h2:2 * id / 2=id:=by omega
  have hmem:s.tb (2 * id) ∈ l:=(hr.mem _).2 ⟨id,nd,hnd,rfl⟩
  have hnorm:G.normT (s.tb (2 * id))=s.tb (2 * id):=by rw [kn.norm ok,h2]
  have hheld:G.heldT l h (G.normT (s.tb (2 * id)))=nd.refs:=by rw [hnorm];exact hr.held id nd hnd
  have hlT:∀ y ∈ l,y.length≤4096:=fun y hy=>by rw [show y.length=2 ^ s.vars.length from hr.isT y hy];omega
  refine ⟨id,nd,h1,by omega,by rw [← hbr];omega,ok.can.ne id nd hnd,ok.can.even id nd hnd,by omega,hmem,fun ip e=>?_,fun w' ms' J hJ h9=>?_,fun w' ms' J hJ h9=>?_,fun w' ms' J x hJ hx h9=>?_,fun w' ms' J x hJ hx h9=>?_,fun w' ms' J hJ h9=>?_⟩
  · subst e
    have h3:s.nodes[ip]?=some (s.nodes[ip]'(by omega)):=List.getElem?_eq_getElem (by omega)
    exact ⟨_,_,h3,G.nodes_lt h3 h1⟩
  · refine (sat_some (hRw w' ms' J hJ h9) (2 * id) (by omega) (by rw [h2];exact hnd)).mono ?_
    rintro e w2 ⟨rfl,h7⟩
    refine ⟨?_,h9.below_ h7⟩
    rw [show (2 * id % 2 == 1)=false by rw [Nat.mul_mod_right];rfl]
    rfl
  · refine (table_f (hRw w' ms' J hJ h9) ok kn hn h9).mono ?_
    rintro e w2 ⟨v,K,rfl,hK,hb9,h8⟩
    obtain ⟨xb,xc,rfl,_⟩:=hb9.2 (by omega)
    exact ⟨xb,_,xc,K,rfl,hK,hb9,h8⟩
  · refine (rin_idx (hl.le hJ) hx (by omega) (fun y hy=>Nat.le_trans (hlT y hy) (by omega)) h9).mono ?_
    rintro e w2 ⟨rfl,h8⟩
    refine ⟨?_,h8⟩
    unfold idxI
    rw [if_pos hmem]
  · refine (rheld_any (n:=s.vars.length) (hl.le hJ) (hh.le hJ) hr.len hlT hx hX (by omega) (by omega) h9).mono ?_
    rintro e w2 ⟨rfl,h8⟩
    exact ⟨by rw [hheld],h8⟩
  · refine (sheld_any (hRw w' ms' J hJ h9) ((2 * id:Nat):Int) (by omega)).mono ?_
    rintro e w2 ⟨rfl,h7⟩
    exact ⟨by rw [kn.held ok hr,hheld],h9.below_ h7⟩
 have Hpk:=Lib.hid hpk
 have HOf:=Lib.hid (fun (w':World) (id:Nat) (hid:id<4194304)=>show Calls Tryz.prog 48 #[nv id,.bool false] w' (fun e w''=>e=.returned (nv (2 * id))∧w'=w'') from eof_any (w:=w') id false hid)
 have HNeg:=Lib.hid (fun (w':World) (hi:Nat) (h2:hi % 2=0)=>show Calls Tryz.prog 38 #[nv hi] w' (fun e w''=>e=.returned (.bool false)∧w'=w'') by
  have:=eneg_any (w:=w') hi
  rwa [show (hi % 2 == 1)=false by rw [h2];rfl] at this)
 obtain ⟨⟨A,c,rfl⟩,_⟩:=hl.get
 obtain ⟨⟨B2,d,rfl⟩,_⟩:=hh
 clear hR ok hr hl hbr hRw hpk hal hoo
 generalize s.vars.length=n at *
 generalize s.nodes=nds at *
 generalize h.length=q2 at *
 generalize l.length=q1 at *
 go_enter Tryz.func42,Tryz.ntmps42
 go_upto_region 1 with (first|((with_reducible refine atList ?_);  ((with_reducible refine isBoxD 3 ?_);refine bx hS rfl rfl rfl ?_;clear hS;intro X3 w hS;(try simp only [Act.eval,zD,zC,zA,zB,zJ,Value.cells] at hS);(try simp only [Act.put,zE,zF,zG])) ))
 have hSp:=hS.perm (perm_front 0 rfl)
 simp only [List.eraseIdx_cons_zero] at hSp
 obtain ⟨I3,a3,e3,hS3,_⟩:=hSp.ice
 have ix3:Cells I3 X3 0 [nv n,nv b,ov,.slice A q1 c,.slice B2 q2 d]:=(Cells.one X3 #[nv n,nv b,ov,.slice A q1 c,.slice B2 q2 d] 31 (0,0)).le e3
 clear hS hSp e3
 have hS:=hS3
 clear hS3
 go_upto_region 2 with (first
  | (go_at_call 73;((with_reducible refine Calls.mono (HAl.out _ _ _ a3 hS) ?_);clear hS;rintro e w ⟨vr,mo,rfl,hO,hS⟩)))
 obtain ⟨J5,a5,e5,hS5,_⟩:=hS.ice
 clear hS
 have hS:=hS5
 clear hS5
 have HI0:=Lib.hid (PH.le.trans a3 a5)
 have hrow:(∃ A c,vr=.slice A q1 c)∧∀ i x,nds[i]?=some x→∃ Y c,vr=.slice (some ⟨Y,0,none⟩) q1 c∧Cells J5 Y (i * 5) [nv x.1,nv x.2.v,nv x.2.lo,nv x.2.hi,nv x.2.refs]:=by
  obtain ⟨A,c,rfl,_⟩:=hO.shape
  refine ⟨⟨A,c,rfl⟩,fun i x hx=>?_⟩
  have hlt:=(List.getElem?_eq_some_iff.1 hx).1
  obtain ⟨Y,c',e,_⟩:=hO.ptr (by omega)
  injection e with e1 e2 e3
  subst e1 e3
  exact ⟨Y,c,rfl,(flat_cells ndR_len hO hx).le e5⟩
 obtain ⟨⟨Ar,yc,rfl⟩,hrow⟩:=hrow
 have Hrow:=Lib.hid hrow
 have g0:J5.at X3 0=some (nv n):=PH.at_le a5 (ix3 0 _ rfl)
 have g1:J5.at X3 1=some (nv b):=PH.at_le a5 (ix3 1 _ rfl)
 have g3:J5.at X3 3=some (.slice A q1 c):=PH.at_le a5 (ix3 3 _ rfl)
 have jx3:=ix3.le a5
 clear hO a3 a5 e5 ix3 hrow
 go_upto_region 5 with ((with_reducible refine isLoad ?_);(first|((refine' ldI1 (v:=_) hS rfl rfl ?ha rfl ?hb ?_);(case ha=>first|exact ty_agg29);(case hb=>assumption)));(try simp only [Act.put,zE,zF,zG]))
 go_loopw [6,7,8,9,10,11,12] (fun v6 _ _ _ _ _ _ wr=>∃ i:Nat,i≤q1∧v6=.int .i64 (i:Int)∧Sat E J5 ms wr) (fun v6 _ _ _ _ _ _ _=>(q1 - intOf v6).toNat)
 case atStart=>exact ⟨0,Nat.zero_le _,rfl,hS⟩
 case round =>
  clear hS
  obtain ⟨i,hi,rfl,hS⟩:=hrel
  by_cases hlt:i<q1
  case neg =>
   have hie:i=q1:=by omega
   subst hie
   go_wp2_with fail
   go_ret
   exact ⟨rfl,hS.less HI0.out⟩
  obtain ⟨id,nd,hnx,hid1,hidb,hlh,heven,hidl,hmem,hprev,HAt,HTb,HIn0,HHo0,HHd⟩:=Hpk.out i hlt
  obtain ⟨Y,yc9,e9,hcell⟩:=Hrow.out i _ hnx
  injection e9 with e1 e2 e3
  subst e1 e3
  clear e2
  have hcell:Cells J5 Y (i * 5) [nv id,nv nd.v,nv nd.lo,nv nd.hi,nv nd.refs]:=hcell
  have HAt:=Lib.hid HAt
  have HTb:=Lib.hid HTb
  have HIn0:=Lib.hid HIn0
  have HHo0:=Lib.hid HHo0
  have HHd:=Lib.hid HHd
  have HPrev:=Lib.hid hprev
  have HNg:=Lib.hid (fun w':World=>HNeg.out w' nd.hi heven)
  have HOi:=Lib.hid (fun w':World=>HOf.out w' id hidl)
  have ii:(i:Int)<(q1:Int):=by omega
  have i0:J5.at Y (i * 5)=some (nv id):=hcell.at 0 rfl
  have i1:J5.at Y (i * 5+1)=some (nv nd.v):=hcell 1 _ rfl
  have i2:J5.at Y (i * 5+2)=some (nv nd.lo):=hcell 2 _ rfl
  have i3:J5.at Y (i * 5+3)=some (nv nd.hi):=hcell 3 _ rfl
  have i4:J5.at Y (i * 5+4)=some (nv nd.refs):=hcell 4 _ rfl
  have hl2:((nd.lo:Int) == (nd.hi:Int))=false:=beq_eq_false_iff_ne.2 (by omega)
  have hl3:¬ (nd.lo:Int)=(nd.hi:Int):=by omega
  have hid3:¬ (id:Int)<1:=by omega
  have hid4:¬ (b:Int)<(id:Int):=by omega
  clear hcell hnx hprev heven hmem hlh
  generalize l.idxOf (s.tb (2 * id))=ix at *
  generalize s.tb (2 * id)=X at *
  generalize hf2:2 * id=f at *
  clear hf2
  obtain ⟨vv,lo,hi,rf⟩:=nd
  simp only at *
  go_upto_region 10 with (first
   | (go_at_call 48;((with_reducible refine Calls.mono (HOi.out _) ?_);rintro e w2 ⟨rfl,rfl⟩))
   | (go_at_call 41;((with_reducible refine Calls.mono (HAt.out _ _ _ HI0.out hS) ?_);clear hS;rintro e w2 ⟨rfl,hS⟩))
   | (go_at_call 18;((with_reducible refine Calls.mono (HTb.out _ _ _ HI0.out hS) ?_);clear hS;rintro e w2 ⟨xb,XL,xc,J6,rfl,hJ6,hbx,hS⟩;have HJ6:=Lib.hid hJ6;have HBx:=Lib.hid hbx;have k0:=PH.at_le hJ6 i0;have k1:=PH.at_le hJ6 i1;have k2:=PH.at_le hJ6 i2;have k3:=PH.at_le hJ6 i3;have k4:=PH.at_le hJ6 i4;have m1:=PH.at_le hJ6 g1;have m3:=PH.at_le hJ6 g3;have mx:=jx3.le hJ6;clear hJ6 hbx))
   | ((with_reducible refine isLoad ?_);(first|((refine' ldI1 (v:=_) hS rfl rfl ?ha rfl ?hb ?_);(case ha=>first|exact ty_agg3);(case hb=>assumption)));(try simp only [Act.put,zE,zF,zG])))
  have HI6:=Lib.hid (PH.le.refl J6)
  have HI0b:=HI0
  have HI0:=Lib.hid (PH.le.trans HI0b.out HJ6.out)
  have HIn:=Lib.hid (fun (w':World) (ms':List PH) (J:PH) (hJ:J6.le J) (h9:Sat E J ms' w')=>HIn0.out w' ms' J _ (PH.le.trans HI0.out hJ) (HBx.out.le hJ) h9)
  have HHo:=Lib.hid (fun (w':World) (ms':List PH) (J:PH) (hJ:J6.le J) (h9:Sat E J ms' w')=>HHo0.out w' ms' J _ (PH.le.trans HI0.out hJ) (HBx.out.le hJ) h9)
  simp only [List.append_eq,List.cons_append,List.nil_append]
  refine region_f0 [[],[0],[0,1],[0,1,2],[0,1,2],[0,1,2,3,4],[0,1,2,3,4,5],[0,1,2,3,4,5,6],[0,1,2],[0,1,2,3,4,5,6,7,8],[0,1,2,3,4,5,6,7,8,9],[0,1,2,3,4,5,6,7,8,9,10],[0,1,2,3,4,5,6,7,8,9,10,11],[0,1,2,3,4,5,6,7,8,9,10,11],[0,1,2,3,4,5,6,7,8,9,10,11,12,13],[0,1,2,3,4,5,6,7,8,9,10,11,12,13,14],[0,1,2,3,4,5,6,7,8,9,10,11,12,13,14,15],[0,1,2,3,4,5,6,7,8,9,10,11],[0,1,2,3,4,5,6,7,8,9,10,11,12,13,14,15,16,17],[0,1,2,3,4,5,6,7,8,9,10,11,12,13,14,15,16,17,18],[0,1,2,3,4,5,6,7,8,9,10,11,12,13,14,15,16,17,18,19],[0,1,2,3,4,5,6,7,8,9,10,11,12,13,14,15,16,17,18,19,20],[0,1,2,3,4,5,6,7,8,9,10,11,12,13,14,15,16,17,18,19,20],[0,1,2,3,4,5,6,7,8,9,10,11,12,13,14,15,16,17,18,19,20,21,22],[0,1,2,3,4,5,6,7,8,9,10,11,12,13,14,15,16,17,18,19,20,21,22,23],[0,1,2,3,4,5,6,7,8,9,10,11,12,13,14,15,16,17,18,19,20,21,22,23,24],[0,1,2,3,4,5,6,7,8,9,10,11,12,13,14,15,16,17,18,19,20],[0,1,2,3,4,5,6,7,8,9,10,11,12,13,14,15,16,17,18,19,20,21,22,23,24,25,26],[0,1,2,3,4,5,6,7,8,9,10,11,12,13,14,15,16,17,18,19,20,21,22,23,24,25,26,27],[0,1,2,3,4,5,6,7,8,9,10,11,12,13,14,15,16,17,18,19,20,21,22,23,24,25,26,27,28],[0,1,2,3,4,5,6,7,8,9,10,11,12,13,14,15,16,17,18,19,20,21,22,23,24,25,26,27,28,29],[0,1,2,3,4,5,6,7,8,9,10,11,12,13,14,15,16,17,18,19,20,21,22,23,24,25,26,27,28,29,30],[0,1,2,3,4,5,6,7,8,9,10,11,12,13,14,15,16,17,18,19,20,21,22,23,24,25,26,27,28,29,30,31],[0,1,2,3,4,5,6,7,8,9,10,11,12,13,14,15,16,17,18,19,20,21,22,23,24,25,26,27,28,29,30,31,32],[0,1,2,3,4,5,6,7,8,9,10,11,12,13,14,15,16,17,18,19,20,21,22,23,24,25,26,27,28,29,30,31,32,33],[0,1,2,3,4,5,6,7,8,9,10,11,12,13,14,15,16,17,18,19,20,21,22,23,24,25,26,27,28,29,30,31,32,33],[0,1,2,3,4,5,6,7,8,9,10,11,12,13,14,15,16,17,18,19,20,21,22,23,24,25,26,27,28,29,30,31,32,33,34,35],[0,1,2,3,4,5,6,7,8,9,10,11,12,13,14,15,16,17,18,19,20,21,22,23,24,25,26,27,28,29,30,31,32,33,34,35,36],[0,1,2,3,4,5,6,7,8,9,10,11,12,13,14,15,16,17,18,19,20,21,22,23,24,25,26,27,28,29,30,31,32,33,34,35,36,37],[0,1,2,3,4,5,6,7,8,9,10,11,12,13,14,15,16,17,18,19,20,21,22,23,24,25,26,27,28,29,30,31,32,33,34,35,36,37,38],[0,1,2,3,4,5,6,7,8,9,10,11,12,13,14,15,16,17,18,19,20,21,22,23,24,25,26,27,28,29,30,31,32,33,34,35,36,37,38,39],[0,1,2,3,4,5,6,7,8,9,10,11,12,13,14,15,16,17,18,19,20,21,22,23,24,25,26,27,28,29,30,31,32,33,34,35,36,37,38,39,40],[0,1,2,3,4,5,6,7,8,9,10,11,12,13,14,15,16,17,18,19,20,21,22,23,24,25,26,27,28,29,30,31,32,33,34,35,36,37,38,39,40,41],[0,1,2,3,4,5,6,7,8,9,10,11,12,13,14,15,16,17,18,19,20,21,22,23,24,25,26,27,28,29,30,31,32,33,34,35,36,37,38,39,40,41,42],[0,1,2,3,4,5,6,7,8,9,10,11,12,13,14,15,16,17,18,19,20,21,22,23,24,25,26,27,28,29,30,31,32,33,34,35,36,37,38,39,40,41,42,43],[0,1,2,3,4,5,6,7,8,9,10,11,12,13,14,15,16,17,18,19,20,21,22,23,24,25,26,27,28,29,30,31,32,33,34,35,36,37,38,39,40,41,42],[0,1,2,3,4,5,6,7,8,9,10,11,12,13,14,15,16,17,18,19,20,21,22,23,24,25,26,27,28,29,30,31,32,33,34,35,36,37,38,39,40,41,42,43,44,45],[0,1,2,3,4,5,6,7,8,9,10,11,12,13,14,15,16,17,18,19,20,21,22,23,24,25,26,27,28,29,30,31,32,33,34,35,36,37,38,39,40,41,42,43,44,45,46],[0,1,2,3,4,5,6,7,8,9,10,11,12,13,14,15,16,17,18,19,20,21,22,23,24,25,26,27,28,29,30,31,32,33,34,35,36,37,38,39,40,41,42,43,44,45,46,47],[0,1,2,3,4,5,6,7,8,9,10,11,12,13,14,15,16,17,18,19,20,21,22,23,24,25,26,27,28,29,30,31,32,33,34,35,36,37,38,39,40,41,42,43,44,45,46,47,48],[0,1,2,3,4,5,6,7,8,9,10,11,12,13,14,15,16,17,18,19,20,21,22,23,24,25,26,27,28,29,30,31,32,33,34,35,36,37,38,39,40,41,42,43,44,45,46,47,48,49],[0,1,2,3,4,5,6,7,8,9,10,11,12,13,14,15,16,17,18,19,20,21,22,23,24,25,26,27,28,29,30,31,32,33,34,35,36,37,38,39,40,41,42,43,44,45,46,47,48,49],[0,1,2,3,4,5,6,7,8,9,10,11,12,13,14,15,16,17,18,19,20,21,22,23,24,25,26,27,28,29,30,31,32,33,34,35,36,37,38,39,40,41,42,43,44,45,46,47,48,49,50,51],[0,1,2,3,4,5,6,7,8,9,10,11,12,13,14,15,16,17,18,19,20,21,22,23,24,25,26,27,28,29,30,31,32,33,34,35,36,37,38,39,40,41,42,43,44,45,46,47,48,49,50,51,52],[0,1,2,3,4,5,6,7,8,9,10,11,12,13,14,15,16,17,18,19,20,21,22,23,24,25,26,27,28,29,30,31,32,33,34,35,36,37,38,39,40,41,42,43,44,45,46,47,48,49,50,51,52,53],[0,1,2,3,4,5,6,7,8,9,10,11,12,13,14,15,16,17,18,19,20,21,22,23,24,25,26,27,28,29,30,31,32,33,34,35,36,37,38,39,40,41,42,43,44,45,46,47,48,49],[0,1,2,3,4,5,6,7,8,9,10,11,12,13,14,15,16,17,18,19,20,21,22,23,24,25,26,27,28,29,30,31,32,33,34,35,36,37,38,39,40,41,42,43,44,45,46,47,48,49],[0,1,2,3,4,5,6,7,8,9,10,11,12,13,14,15,16,17,18,19,20,21,22,23,24,25,26,27,28,29,30,31,32,33,34,35,36,37,38,39,40,41,42,43,44,45,46,47,48,49,55,56],[0,1,2,3,4,5,6,7,8,9,10,11,12,13,14,15,16,17,18,19,20,21,22,23,24,25,26,27,28,29,30,31,32,33,34,35,36,37,38,39,40,41,42,43,44,45,46,47,48,49,50,51,52,53,54,55,56,57],[0,1,2,3,4,5,6,7,8,9,10,11,12,13,14,15,16,17,18,19,20,21,22,23,24,25,26,27,28,29,30,31,32,33,34,35,36,37,38,39,40,41,42,43,44,45,46,47,48,49,50,51,52,53,54,55,56,57,58],[0,1,2,3,4,5,6,7,8,9,10,11,12,13,14,15,16,17,18,19,20,21,22,23,24,25,26,27,28,29,30,31,32,33,34,35,36,37,38,39,40,41,42,43,44,45,46,47,48,49,50,51,52,53,54,55,56,57,58,59],[0,1,2,3,4,5,6,7,8,9,10,11,12,13,14,15,16,17,18,19,20,21,22,23,24,25,26,27,28,29,30,31,32,33,34,35,36,37,38,39,40,41,42,43,44,45,46,47,48,49,50,51,52,53,54,55,56,57,58,59,60],[0,1,2,3,4,5,6,7,8,9,10,11,12,13,14,15,16,17,18,19,20,21,22,23,24,25,26,27,28,29,30,31,32,33,34,35,36,37,38,39,40,41,42,43,44,45,46,47,48,49,50,51,52,53,54,55,56,57,58,59,60],[0,1,2,3,4,5,6,7,8,9,10,11,12,13,14,15,16,17,18,19,20,21,22,23,24,25,26,27,28,29,30,31,32,33,34,35,36,37,38,39,40,41,42,43,44,45,46,47,48,49,50,51,52,53,54,55,56,57,58,59,60,61,62],[0,1,2,3,4,5,6,7,8,9,10,11,12,13,14,15,16,17,18,19,20,21,22,23,24,25,26,27,28,29,30,31,32,33,34,35,36,37,38,39,40,41,42,43,44,45,46,47,48,49,50,51,52,53,54,55,56,57,58,59,60,61,62,63],[0,1,2,3,4,5,6,7,8,9,10,11,12,13,14,15,16,17,18,19,20,21,22,23,24,25,26,27,28,29,30,31,32,33,34,35,36,37,38,39,40,41,42,43,44,45,46,47,48,49,50,51,52,53,54,55,56,57,58,59,60,61,62,63,64],[0,1,2,3,4,5,6,7,8,9,10,11,12,13,14,15,16,17,18,19,20,21,22,23,24,25,26,27,28,29,30,31,32,33,34,35,36,37,38,39,40,41,42,43,44,45,46,47,48,49,50,51,52,53,54,55,56,57,58,59,60],[0,1,2,3,4,5,6,7,8,9,10,11,12,13,14,15,16,17,18,19,20,21,22,23,24,25,26,27,28,29,30,31,32,33,34,35,36,37,38,39,40,41,42,43,44,45,46,47,48,49,50,51,52,53,54,55,56,57,58,59,60],[0,1,2,3,4,5,6,7,8,9,10,11,12,13,14,15,16,17,18,19,20,21,22,23,24,25,26,27,28,29,30,31,32,33,34,35,36,37,38,39,40,41,42,43,44,45,46,47,48,49,50,51,52,53,54,55,56,57,58,59,60,66,67],[0,1,2,3,4,5,6,7,8,9,10,11,12,13,14,15,16,17,18,19,20,21,22,23,24,25,26,27,28,29,30,31,32,33,34,35,36,37,38,39,40,41,42,43,44,45,46,47,48,49,50,51,52,53,54,55,56,57,58,59,60,61,62,63,64,65,66,67,68],[0,1,2,3,4,5,6,7,8,9,10,11,12,13,14,15,16,17,18,19,20,21,22,23,24,25,26,27,28,29,30,31,32,33,34,35,36,37,38,39,40,41,42,43,44,45,46,47,48,49,50,51,52,53,54,55,56,57,58,59,60,61,62,63,64,65,66,67,68,69]] E J6 _
   [fun v _=>v=.bool true,fun v _=>v=.bool false,fun v _=>v=.bool false,fun v _=>v=.slice (some ⟨Y,0,none⟩) q1 yc,fun v _=>v=nv i,fun v _=>v=.pointer (some ⟨Y,i * 5,none⟩),fun v _=>v=.pointer (some ⟨Y,i * 5+1,none⟩),fun v _=>v=nv vv,fun v _=>v=nv vv,fun v _=>v=.bool false,fun v _=>v=.bool false,fun v _=>v=.bool false,fun v _=>v=.slice (some ⟨Y,0,none⟩) q1 yc,fun v _=>v=nv i,fun v _=>v=.pointer (some ⟨Y,i * 5,none⟩),fun v _=>v=.pointer (some ⟨Y,i * 5+2,none⟩),fun v _=>v=nv lo,fun v _=>v=nv lo,fun v _=>v=.bool false,fun v _=>v=.bool false,fun v _=>v=.bool false,fun v _=>v=.slice (some ⟨Y,0,none⟩) q1 yc,fun v _=>v=nv i,fun v _=>v=.pointer (some ⟨Y,i * 5,none⟩),fun v _=>v=.pointer (some ⟨Y,i * 5+3,none⟩),fun v _=>v=nv hi,fun v _=>v=nv hi,fun v _=>v=.bool false,fun v _=>v=.bool false,fun v _=>v=.bool false,fun v _=>v=nv hi,fun v _=>v=.bool false,fun v _=>v=.bool false,fun v _=>v=.bool false,fun v _=>v=nv lo,fun v _=>v=nv hi,fun v _=>v=.bool false,fun v _=>v=.bool false,fun v _=>v=.bool false,fun v _=>v=.slice (some ⟨xb,0,none⟩) XL xc,fun v _=>v=.bool false,fun v _=>v=.bool false,fun v _=>v=.bool false,fun v _=>v=.pointer (some ⟨X3,3,none⟩),fun v _=>v=.slice A q1 c,fun v _=>v=.slice (some ⟨xb,0,none⟩) XL xc,fun v _=>v=nv ix,fun v _=>v=.bool false,fun v _=>v=.bool false,fun v _=>v=.bool false,fun v _=>v=.slice (some ⟨Y,0,none⟩) q1 yc,fun v _=>v=nv i,fun v _=>v=.pointer (some ⟨Y,i * 5,none⟩),fun v _=>v=.pointer (some ⟨Y,i * 5+4,none⟩),fun v _=>v=nv rf,fun v _=>v=.agg #[nv n,nv b,ov,.slice A q1 c,.slice B2 q2 d],fun v _=>v=.slice (some ⟨xb,0,none⟩) XL xc,fun v _=>v=nv rf,fun v _=>v=.bool false,fun v _=>v=.bool false,fun v _=>v=.bool false,fun v _=>v=.slice (some ⟨Y,0,none⟩) q1 yc,fun v _=>v=nv i,fun v _=>v=.pointer (some ⟨Y,i * 5,none⟩),fun v _=>v=.pointer (some ⟨Y,i * 5+4,none⟩),fun v _=>v=nv rf,fun v _=>v=vPt S,fun v _=>v=nv f,fun v _=>v=nv rf,fun v _=>v=.bool false,fun v _=>v=.bool false] (by kernel_rfl) (by kernel_rfl) hS ?_ ?plain ?fin
  · repeat (first|exact Lasting.nil|refine Lasting.cons (fun _ _ _ _ h=>h) ?_)
  case plain =>
   repeat' (first|exact trivial|apply And.intro)
   all_goals
    refine .inr ?_
    intro vals J9 bs w hg hJ9 hS
    simp only [zH,zI,Given,Facts] at hg;simp only [textL,actL,dstAt,opAt,zH,zI,zA,zB,zK,if_true,Act.put,zE,zF,zG,hg];refine ⟨?_⟩;refine wpStep_of (fun K hK=>?_);have HK:=Lib.hid hK;clear hK;rw [if_pos (by rfl)]
    (first|((with_reducible refine atLoad ?_);first|((refine' wp_ldi1 (v:=_) hS hJ9 ?ha rfl ?hc ?_);(case ha=>first|exact ty_agg3|exact ty_agg29);(case hc=>assumption))|((refine' wp_ldiN (vs:=_) hS hJ9 ?ha rfl ?hc ?hb ?_);(case ha=>first|exact ty_agg31);(case hc=>assumption);(case hb=>first|exact ty_sz31)))|(go_wp2_with (first|(go_at_call 38;((with_reducible refine Calls.mono (HNg.out _) ?_);rintro e w2 ⟨rfl,rfl⟩))|(go_at_call 63;((with_reducible refine Calls.mono (HIn.out _ _ _ (PH.le.trans HI6.out hJ9) hS) ?_);clear hS;rintro e w2 ⟨rfl,hS⟩))|(go_at_call 40;((with_reducible refine Calls.mono (HHo.out _ _ _ (PH.le.trans HI6.out hJ9) hS) ?_);clear hS;rintro e w2 ⟨rfl,hS⟩))|(go_at_call 39;((with_reducible refine Calls.mono (HHd.out _ _ _ (PH.le.trans HI0.out hJ9) hS) ?_);clear hS;rintro e w2 ⟨rfl,hS⟩)))))
    ( refine HK.out _ _ ⟨rfl,J9,PH.le.refl _,hS,?_⟩ )
    clear HK
    simp only [Facts]
    simp only [outOf,zH,zI,Act.put,zE,zF,zG,zD,zC,zA,zB,zJ]
    (first|done|rfl)
  case fin =>
   clear hS
   intro vals J w hJ hg hS
   have hS:=hS.less hJ
   simp only [List.length_cons,List.length_nil,Nat.reduceAdd,Below_,Facts,zH,zI,true_and] at hg;simp only [List.length_cons,List.length_nil,Nat.reduceAdd,textL,actL,dstAt,zA,zB,zK,if_true,Act.put,zE,zF,zG,hg];refine ⟨?_⟩
   clear hg hJ
   go_upto_region 12 with fail
   by_cases h0:i=0
   case pos =>
    subst h0
    clear HPrev
    refine region_f0 [[],[0],[0,1],[0,1,2],[0,1,2],[0,1,2,3,4],[0,1,2,3,4,5],[0,1,2,3,4,5,6],[0,1,2],[0,1,2],[0,1,2,9],[0,1,2,8,9,10],[0,1,2,8,9,10,11],[0,1,2,8,9,10,11,12],[0,1,2,3,4,5,6,7,8,9,10,11,12,13],[0,1,2,3,4,5,6,7,8,9,10,11,12,13,14],[0,1,2,3,4,5,6,7,8,9,10,11,12,13,14,15],[0,1,2,3,4,5,6,7,8,9,10,11,12,13,14,15,16],[0,1,2,3,4,5,6,7,8,9,10,11,12,13,14,15,16],[0,1,2,3,4,5,6,7,8,9,10,11,12,13,14,15,16,17,18],[0,1,2,3,4,5,6,7,8,9,10,11,12,13,14,15,16,17,18,19],[0,1,2,3,4,5,6,7,8,9,10,11,12,13,14,15,16,17,18,19,20],[0,1,2,3,4,5,6,7,8,9,10,11,12,13,14,15,16,17,18,19,20,21],[0,1,2,3,4,5,6,7,8,9,10,11,12,13,14,15,16,17,18,19,20,21,22],[0,1,2,3,4,5,6,7,8,9,10,11,12,13,14,15,16,17,18,19,20,21,22,23],[0,1,2,3,4,5,6,7,8,9,10,11,12,13,14,15,16,17,18,19,20,21,22,23,24],[0,1,2,3,4,5,6,7,8,9,10,11,12,13,14,15,16,17,18,19,20,21,22,23,24],[0,1,2,3,4,5,6,7,8,9,10,11,12,13,14,15,16,17,18,19,20,21,22,23,24,25,26],[0,1,2,3,4,5,6,7,8,9,10,11,12,13,14,15,16,17,18,19,20,21,22,23,24,25,26,27],[0,1,2,3,4,5,6,7,8,9,10,11,12,13,14,15,16,17,18,19,20,21,22,23,24,25,26,27,28],[0,1,2,3,4,5,6,7,8,9,10,11,12,13,14,15,16,17,18,19,20,21,22,23,24],[0,1,2,3,4,5,6,7,8,9,10,11,12,13,14,15,16,17,18,19,20,21,22,23,24,30],[0,1,2,3,4,5,6,7,8,9,10,11,12,13,14,15,16,17,18,19,20,21,22,23,24,25,26,27,28,29,30,31],[0,1,2,3,4,5,6,7,8,9,10,11,12,13,14,15,16,17,18,19,20,21,22,23,24,25,26,27,28,29,30,31,32]] E J6 _
     [fun v _=>v=nv 0,fun v _=>v=.bool false,fun v _=>v=.bool false,fun _ _=>True,fun _ _=>True,fun _ _=>True,fun _ _=>True,fun _ _=>True,fun _ _=>True,fun _ _=>True,fun _ _=>True,fun _ _=>True,fun _ _=>True,fun _ _=>True,fun _ _=>True,fun v _=>v=.bool false,fun v _=>v=.bool false,fun v _=>v=.slice (some ⟨Y,0,none⟩) q1 yc,fun v _=>v=nv 0,fun v _=>v=.pointer (some ⟨Y,0,none⟩),fun v _=>v=.pointer (some ⟨Y,0,none⟩),fun v _=>v=nv id,fun v _=>v=.bool false,fun v _=>v=.bool false,fun v _=>v=.bool false,fun v _=>v=.slice (some ⟨Y,0,none⟩) q1 yc,fun v _=>v=nv 0,fun v _=>v=.pointer (some ⟨Y,0,none⟩),fun v _=>v=.pointer (some ⟨Y,0,none⟩),fun v _=>v=nv id,fun v _=>v=.pointer (some ⟨X3,1,none⟩),fun v _=>v=nv b,fun v _=>v=.bool false,fun v _=>v=.bool false] (by kernel_rfl) (by kernel_rfl) hS ?_ ?plain ?fin
    · repeat (first|exact Lasting.nil|refine Lasting.cons (fun _ _ _ _ h=>h) ?_)
    case plain =>
     repeat' (first|exact trivial|apply And.intro)
     rotate_left 3
     · refine .inr ?_
       intro vals J9 bs w hg hJ9 hS
       simp only [zH,zI,Given,Facts] at hg
       simp only [textL,actL,dstAt,opAt,zH,zI,zA,zB,zK,if_true,Act.put,zE,zF,zG,hg]
       refine ⟨?_⟩
       refine wpStep_of (fun K hK=>?_)
       have HK:=Lib.hid hK
       clear hK
       refine want_no rfl ?_
       exact HK.out _ _ ⟨rfl,J9,PH.le.refl _,hS,trivial⟩
     · refine .inr ?_
       intro vals J9 bs w hg hJ9 hS
       simp only [zH,zI,Given,Facts] at hg
       simp only [textL,actL,dstAt,opAt,zH,zI,zA,zB,zK,if_true,Act.put,zE,zF,zG,hg]
       refine ⟨?_⟩
       refine wpStep_of (fun K hK=>?_)
       have HK:=Lib.hid hK
       clear hK
       refine want_no rfl ?_
       exact HK.out _ _ ⟨rfl,J9,PH.le.refl _,hS,trivial⟩
     · refine .inr ?_
       intro vals J9 bs w hg hJ9 hS
       simp only [zH,zI,Given,Facts] at hg
       simp only [textL,actL,dstAt,opAt,zH,zI,zA,zB,zK,if_true,Act.put,zE,zF,zG,hg]
       refine ⟨?_⟩
       refine wpStep_of (fun K hK=>?_)
       have HK:=Lib.hid hK
       clear hK
       refine want_no rfl ?_
       exact HK.out _ _ ⟨rfl,J9,PH.le.refl _,hS,trivial⟩
     · refine .inr ?_
       intro vals J9 bs w hg hJ9 hS
       simp only [zH,zI,Given,Facts] at hg
       simp only [textL,actL,dstAt,opAt,zH,zI,zA,zB,zK,if_true,Act.put,zE,zF,zG,hg]
       refine ⟨?_⟩
       refine wpStep_of (fun K hK=>?_)
       have HK:=Lib.hid hK
       clear hK
       refine want_no rfl ?_
       exact HK.out _ _ ⟨rfl,J9,PH.le.refl _,hS,trivial⟩
     · refine .inr ?_
       intro vals J9 bs w hg hJ9 hS
       simp only [zH,zI,Given,Facts] at hg
       simp only [textL,actL,dstAt,opAt,zH,zI,zA,zB,zK,if_true,Act.put,zE,zF,zG,hg]
       refine ⟨?_⟩
       refine wpStep_of (fun K hK=>?_)
       have HK:=Lib.hid hK
       clear hK
       refine want_no rfl ?_
       exact HK.out _ _ ⟨rfl,J9,PH.le.refl _,hS,trivial⟩
     · refine .inr ?_
       intro vals J9 bs w hg hJ9 hS
       simp only [zH,zI,Given,Facts] at hg
       simp only [textL,actL,dstAt,opAt,zH,zI,zA,zB,zK,if_true,Act.put,zE,zF,zG,hg]
       refine ⟨?_⟩
       refine wpStep_of (fun K hK=>?_)
       have HK:=Lib.hid hK
       clear hK
       refine want_no rfl ?_
       exact HK.out _ _ ⟨rfl,J9,PH.le.refl _,hS,trivial⟩
     · refine .inr ?_
       intro vals J9 bs w hg hJ9 hS
       simp only [zH,zI,Given,Facts] at hg
       simp only [textL,actL,dstAt,opAt,zH,zI,zA,zB,zK,if_true,Act.put,zE,zF,zG,hg]
       refine ⟨?_⟩
       refine wpStep_of (fun K hK=>?_)
       have HK:=Lib.hid hK
       clear hK
       refine want_no rfl ?_
       exact HK.out _ _ ⟨rfl,J9,PH.le.refl _,hS,trivial⟩
     · refine .inr ?_
       intro vals J9 bs w hg hJ9 hS
       simp only [zH,zI,Given,Facts] at hg
       simp only [textL,actL,dstAt,opAt,zH,zI,zA,zB,zK,if_true,Act.put,zE,zF,zG,hg]
       refine ⟨?_⟩
       refine wpStep_of (fun K hK=>?_)
       have HK:=Lib.hid hK
       clear hK
       refine want_no rfl ?_
       exact HK.out _ _ ⟨rfl,J9,PH.le.refl _,hS,trivial⟩
     · refine .inr ?_
       intro vals J9 bs w hg hJ9 hS
       simp only [zH,zI,Given,Facts] at hg
       simp only [textL,actL,dstAt,opAt,zH,zI,zA,zB,zK,if_true,Act.put,zE,zF,zG,hg]
       refine ⟨?_⟩
       refine wpStep_of (fun K hK=>?_)
       have HK:=Lib.hid hK
       clear hK
       refine want_no rfl ?_
       exact HK.out _ _ ⟨rfl,J9,PH.le.refl _,hS,trivial⟩
     · refine .inr ?_
       intro vals J9 bs w hg hJ9 hS
       simp only [zH,zI,Given,Facts] at hg
       simp only [textL,actL,dstAt,opAt,zH,zI,zA,zB,zK,if_true,Act.put,zE,zF,zG,hg]
       refine ⟨?_⟩
       refine wpStep_of (fun K hK=>?_)
       have HK:=Lib.hid hK
       clear hK
       refine want_no rfl ?_
       exact HK.out _ _ ⟨rfl,J9,PH.le.refl _,hS,trivial⟩
     · refine .inr ?_
       intro vals J9 bs w hg hJ9 hS
       simp only [zH,zI,Given,Facts] at hg
       simp only [textL,actL,dstAt,opAt,zH,zI,zA,zB,zK,if_true,Act.put,zE,zF,zG,hg]
       refine ⟨?_⟩
       refine wpStep_of (fun K hK=>?_)
       have HK:=Lib.hid hK
       clear hK
       refine want_no rfl ?_
       exact HK.out _ _ ⟨rfl,J9,PH.le.refl _,hS,trivial⟩
     · refine .inr ?_
       intro vals J9 bs w hg hJ9 hS
       simp only [zH,zI,Given,Facts] at hg
       simp only [textL,actL,dstAt,opAt,zH,zI,zA,zB,zK,if_true,Act.put,zE,zF,zG,hg]
       refine ⟨?_⟩
       refine wpStep_of (fun K hK=>?_)
       have HK:=Lib.hid hK
       clear hK
       refine want_no rfl ?_
       exact HK.out _ _ ⟨rfl,J9,PH.le.refl _,hS,trivial⟩
     all_goals
      refine .inr ?_
      intro vals J9 bs w hg hJ9 hS
      simp only [zH,zI,Given,Facts] at hg;simp only [textL,actL,dstAt,opAt,zH,zI,zA,zB,zK,if_true,Act.put,zE,zF,zG,hg];refine ⟨?_⟩;refine wpStep_of (fun K hK=>?_);have HK:=Lib.hid hK;clear hK;rw [if_pos (by rfl)]
      (first|((with_reducible refine atLoad ?_);first|((refine' wp_ldi1 (v:=_) hS hJ9 ?ha rfl ?hc ?_);(case ha=>first|exact ty_agg3);(case hc=>assumption)))|(go_wp2_with (fail)))
      ( refine HK.out _ _ ⟨rfl,J9,PH.le.refl _,hS,?_⟩ )
      clear HK
      simp only [Facts]
      simp only [outOf,zH,zI,Act.put,zE,zF,zG,zD,zC,zA,zB,zJ]
      (first|done|exact congrArg Value.bool (decide_eq_false (by omega)) )
    case fin =>
     clear hS
     intro vals J w hJ hg hS
     have hS:=hS.less hJ
     simp only [List.length_cons,List.length_nil,Nat.reduceAdd,Below_,Facts,zH,zI,true_and,and_true] at hg;simp only [List.length_cons,List.length_nil,Nat.reduceAdd,textL,actL,dstAt,zA,zB,zK,if_true,Act.put,zE,zF,zG,hg];refine ⟨?_⟩
     clear hg hJ
     go_wp2_with fail
     exact ⟨⟨0+1,by omega,by go_num,hS.less HJ6.out⟩,by simp [intOf];omega⟩
   case neg =>
    obtain ⟨ip,hip⟩:∃ ip,i=ip+1:=⟨i - 1,by omega⟩
    obtain ⟨idp,ndp,hpx,hpl⟩:=HPrev.out ip hip
    obtain ⟨Y9,yc9,e9,hcp⟩:=Hrow.out ip _ hpx
    injection e9 with e1 e2 e3
    injection e1 with e1
    injection e1 with e1
    subst e1 e3
    clear e2
    have p0:J6.at Y (ip * 5)=some (nv idp):=PH.at_le HJ6.out (Cells.at hcp 0 rfl)
    have hs1:(i:Int) - 1=(ip:Int):=by omega
    have hgt:0<(i:Int):=by omega
    have hip2:(ip:Int)<(q1:Int):=by omega
    have hnl:¬ (id:Int)≤(idp:Int):=by omega
    have Hip:=Lib.hid hip
    clear hcp hpx hip h0 hpl
    refine region_f0 [[],[0],[0,1],[0,1,2],[0,1,2],[0,1,2,3,4],[0,1,2,3,4,5],[0,1,2,3,4,5,6],[0,1,2],[0,1,2],[0,1,2,9],[0,1,2,8,9,10],[0,1,2,8,9,10,11],[0,1,2,8,9,10,11,12],[0,1,2,3,4,5,6,7,8,9,10,11,12,13],[0,1,2,3,4,5,6,7,8,9,10,11,12,13,14],[0,1,2,3,4,5,6,7,8,9,10,11,12,13,14,15],[0,1,2,3,4,5,6,7,8,9,10,11,12,13,14,15,16],[0,1,2,3,4,5,6,7,8,9,10,11,12,13,14,15,16],[0,1,2,3,4,5,6,7,8,9,10,11,12,13,14,15,16,17,18],[0,1,2,3,4,5,6,7,8,9,10,11,12,13,14,15,16,17,18,19],[0,1,2,3,4,5,6,7,8,9,10,11,12,13,14,15,16,17,18,19,20],[0,1,2,3,4,5,6,7,8,9,10,11,12,13,14,15,16,17,18,19,20,21],[0,1,2,3,4,5,6,7,8,9,10,11,12,13,14,15,16,17,18,19,20,21,22],[0,1,2,3,4,5,6,7,8,9,10,11,12,13,14,15,16,17,18,19,20,21,22,23],[0,1,2,3,4,5,6,7,8,9,10,11,12,13,14,15,16,17,18,19,20,21,22,23,24],[0,1,2,3,4,5,6,7,8,9,10,11,12,13,14,15,16,17,18,19,20,21,22,23,24],[0,1,2,3,4,5,6,7,8,9,10,11,12,13,14,15,16,17,18,19,20,21,22,23,24,25,26],[0,1,2,3,4,5,6,7,8,9,10,11,12,13,14,15,16,17,18,19,20,21,22,23,24,25,26,27],[0,1,2,3,4,5,6,7,8,9,10,11,12,13,14,15,16,17,18,19,20,21,22,23,24,25,26,27,28],[0,1,2,3,4,5,6,7,8,9,10,11,12,13,14,15,16,17,18,19,20,21,22,23,24],[0,1,2,3,4,5,6,7,8,9,10,11,12,13,14,15,16,17,18,19,20,21,22,23,24,30],[0,1,2,3,4,5,6,7,8,9,10,11,12,13,14,15,16,17,18,19,20,21,22,23,24,25,26,27,28,29,30,31],[0,1,2,3,4,5,6,7,8,9,10,11,12,13,14,15,16,17,18,19,20,21,22,23,24,25,26,27,28,29,30,31,32]] E J6 _
     [fun v _=>v=nv i,fun v _=>v=.bool true,fun v _=>v=.bool true,fun v _=>v=.slice (some ⟨Y,0,none⟩) q1 yc,fun v _=>v=nv i,fun v _=>v=.pointer (some ⟨Y,i * 5,none⟩),fun v _=>v=.pointer (some ⟨Y,i * 5,none⟩),fun v _=>v=nv id,fun v _=>v=.slice (some ⟨Y,0,none⟩) q1 yc,fun v _=>v=nv i,fun v _=>v=nv ip,fun v _=>v=.pointer (some ⟨Y,ip * 5,none⟩),fun v _=>v=.pointer (some ⟨Y,ip * 5,none⟩),fun v _=>v=nv idp,fun v _=>v=.bool false,fun v _=>v=.bool false,fun v _=>v=.bool false,fun v _=>v=.slice (some ⟨Y,0,none⟩) q1 yc,fun v _=>v=nv i,fun v _=>v=.pointer (some ⟨Y,i * 5,none⟩),fun v _=>v=.pointer (some ⟨Y,i * 5,none⟩),fun v _=>v=nv id,fun v _=>v=.bool false,fun v _=>v=.bool false,fun v _=>v=.bool false,fun v _=>v=.slice (some ⟨Y,0,none⟩) q1 yc,fun v _=>v=nv i,fun v _=>v=.pointer (some ⟨Y,i * 5,none⟩),fun v _=>v=.pointer (some ⟨Y,i * 5,none⟩),fun v _=>v=nv id,fun v _=>v=.pointer (some ⟨X3,1,none⟩),fun v _=>v=nv b,fun v _=>v=.bool false,fun v _=>v=.bool false] (by kernel_rfl) (by kernel_rfl) hS ?_ ?plain ?fin
    · repeat (first|exact Lasting.nil|refine Lasting.cons (fun _ _ _ _ h=>h) ?_)
    case plain =>
     repeat' (first|exact trivial|apply And.intro)
     all_goals
      refine .inr ?_
      intro vals J9 bs w hg hJ9 hS
      simp only [zH,zI,Given,Facts] at hg;simp only [textL,actL,dstAt,opAt,zH,zI,zA,zB,zK,if_true,Act.put,zE,zF,zG,hg];refine ⟨?_⟩;refine wpStep_of (fun K hK=>?_);have HK:=Lib.hid hK;clear hK;rw [if_pos (by rfl)]
      (first|((with_reducible refine atLoad ?_);first|((refine' wp_ldi1 (v:=_) hS hJ9 ?ha rfl ?hc ?_);(case ha=>first|exact ty_agg3);(case hc=>assumption)))|(go_wp2_with (fail)))
      ( refine HK.out _ _ ⟨rfl,J9,PH.le.refl _,hS,?_⟩ )
      clear HK
      simp only [Facts]
      simp only [outOf,zH,zI,Act.put,zE,zF,zG,zD,zC,zA,zB,zJ]
      (first|done|exact congrArg Value.bool (decide_eq_false (by omega))|exact congrArg Value.bool (decide_eq_true (by omega)))
    case fin =>
     clear hS
     intro vals J w hJ hg hS
     have hS:=hS.less hJ
     simp only [List.length_cons,List.length_nil,Nat.reduceAdd,Below_,Facts,zH,zI,true_and] at hg;simp only [List.length_cons,List.length_nil,Nat.reduceAdd,textL,actL,dstAt,zA,zB,zK,if_true,Act.put,zE,zF,zG,hg];refine ⟨?_⟩
     clear hg hJ
     go_wp2_with fail
     exact ⟨⟨i+1,by omega,by go_num,hS.less HJ6.out⟩,by simp [intOf];omega⟩
end Go.Proofs.YtdhkkkhnjooioaaGreat
