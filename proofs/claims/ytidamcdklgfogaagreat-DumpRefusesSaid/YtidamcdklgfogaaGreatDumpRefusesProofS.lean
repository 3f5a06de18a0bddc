import Derived.Test.YtidamcdklgfogaaGreatUbh
namespace Go.Proofs.YtidamcdklgfogaaGreat.dumpRefuses
open Go.ChangeShapes Go.WideShapes Go.ChangeAt Go.RowKit
set_option linter.unusedVariables false
set_option linter.unusedSimpArgs false
theorem own:ownKnob Tryz.prog.godebug=none:=by kernel_rfl
theorem laidOut:laidOutB Tryz.prog=true:=by kernel_rfl
theorem cells38:Tryz.prog.cellsOf 38=4:=by kernel_rfl
theorem cells3:Tryz.prog.cellsOf 3=1:=by kernel_rfl
theorem cells23:Tryz.prog.cellsOf 23=1:=by kernel_rfl
theorem cells35:Tryz.prog.cellsOf 35=1:=by kernel_rfl
theorem cells36:Tryz.prog.cellsOf 36=1:=by kernel_rfl
theorem cells87:Tryz.prog.cellsOf 87=3:=by kernel_rfl
theorem cells85:Tryz.prog.cellsOf 85=3:=by kernel_rfl
theorem cells22:Tryz.prog.cellsOf 22=1:=by kernel_rfl
theorem cells62:Tryz.prog.cellsOf 62=3:=by kernel_rfl
theorem cells4:Tryz.prog.cellsOf 4=1:=by kernel_rfl
theorem readable3:Tryz.prog.readableRec 3=true/\3<Tryz.prog.types.size:=⟨by kernel_rfl,of_decide_eq_true (by kernel_rfl)⟩
theorem readable22:Tryz.prog.readableRec 22=true/\22<Tryz.prog.types.size:=⟨by kernel_rfl,of_decide_eq_true (by kernel_rfl)⟩
theorem readable38:Tryz.prog.readableRec 38=true/\38<Tryz.prog.types.size:=⟨by kernel_rfl,of_decide_eq_true (by kernel_rfl)⟩
theorem readable:∀t∈Tryz.f5.params.toList,Tryz.prog.readableRec t=true/\t<Tryz.prog.types.size:=by
 rw[show Tryz.f5.params.toList=[38,3,22] from by rw[Tryz.params5]];intro t ht;simp only[jBa,jCa,jJb] at ht;rcases ht with rfl|rfl|rfl
 . exact readable38
 . exact readable3
 . exact readable22
set_option maxRecDepth 100000 in
theorem lifted(os:Os)(started:os.Started)(H:Type)(enc:TypeId×Value->H) :
  ReturnsInHanded {} Tryz.checked os 5 .any (Rows.dumpRefusesSpec.pre6 enc Tryz.prog Tryz.f5 Rows.dumpRefusesRow.domain false) (Rows.dumpRefusesSpec.post enc Tryz.prog Tryz.f5 false true false false):=by
 refine returnsInHanded_of_change (C:=Tryz.checked) own started (by kernel_rfl) Tryz.func5
  (ChangeSpec.witness6 (enc:=enc) (C:=Tryz.checked) false ⟨#[],#[.agg #[.int .i64 0,.slice none 0 0,.slice none 0 0,.slice none 0 0],.int .i64 0,.slice none 0 0],[]⟩ 8 (by kernel_rfl) (by kernel_rfl) (by kernel_rfl) (by kernel_rfl)) ?_
 intro W base args ds gs before hval0 hW hcnd hsz;have hval:∀(j:Nat) t v,Tryz.f5.params[j]?=some t->args[j]?=some v->Value.okWide Tryz.prog W .any base t v:=hval0;have hW':=hW;obtain⟨p,q,hA0,hV,rfl,hfz,hnd⟩:=hW;have hA:DataW.TrodAll enc Tryz.prog W 0 (λ_=>true) true Tryz.f5.params.toList args.toList ds p:=hA0;rw[Tryz.params5] at hA hval;obtain⟨v0,vs0,d0,ds0,p0,q0,hargs,rfl,rfl,h0,r0⟩:=trodAll_cons hA;obtain⟨v1,vs1,d1,ds1,p1,q1,rfl,rfl,rfl,h1,r1⟩:=trodAll_cons r0;obtain⟨v2,vs2,d2,ds2,p2,q2,rfl,rfl,rfl,h2,r2⟩:=trodAll_cons r1;obtain⟨rfl,rfl,rfl⟩:=trodAll_nil r2;obtain rfl:args = #[v0,v1,v2]:=by cases args;simp_all
 obtain⟨vars,vo,ve,vp,order,ts,evs,rfl,R0⟩:=open_ask (hval 0 38 v0 rfl rfl) h0;obtain⟨a1,rfl,rfl,rfl,w1⟩:=open_int Tryz.underlying3 (hval 1 3 v1 rfl rfl) h1;obtain⟨A2,c2,l2,rfl,g2,m2,f2,R2⟩:=open_rows3 (hval 2 22 v2 rfl rfl) h2;clear hA0 hval0;refine (refuses_open W vars a1 order ts evs vo ve vp A2 l2.length c2 R0).mono λe W' ⟨he,hg⟩=>?_
 subst he;exact⟨_,rfl,post_law hW' rfl (λds hd=>by match ds,hd with|[_,_,_],_=>rfl) rfl Tryz.underlying4 laidOut readable hg⟩
theorem over:Rows.dumpRefusesRow.holds Tryz.pinned (OpenSpec.ofChange Rows.dumpRefusesSpec) :=
 OpenClaim.holds_of_wide 5 Tryz.f5 rfl rfl rfl rfl rfl rfl rfl ⟨rfl,rfl,rfl,rfl,rfl⟩ rfl rfl rfl rfl rfl (by kernel_rfl) Tryz.func5 (by kernel_rfl)
  (of_decide_eq_true (by kernel_rfl)) (by unfold Func.isWrapper;  (rw[jAa (by decide +kernel)];exact⟨rfl,rfl⟩))
  (λos started H enc _=>lifted os started H enc)
theorem proved:Rows.DumpRefusesSaid :=
 over
#print axioms proved
end Go.Proofs.YtidamcdklgfogaaGreat.dumpRefuses
