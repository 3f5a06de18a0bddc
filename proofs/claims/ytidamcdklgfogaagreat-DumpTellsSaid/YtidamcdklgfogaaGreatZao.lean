import Derived.Test.YtidamcdklgfogaaGreatZab
import Derived.Test.YtidamcdklgfogaaGreatZan
set_option linter.unusedSimpArgs false
set_option linter.unusedVariables false
set_option maxRecDepth 100000
set_option maxHeartbeats 4000000
namespace Go.Proofs.YtidamcdklgfogaaGreat
section
open Go.RowKit
theorem sis_any {w:World} {S:Nat} {s:G.St} (h:StR (Qa w) S s) (f:Int) (hf:f<9223372036854775808):Calls Tryz.prog 103 #[vPt S,.int .i64 f] w fun e w'=>e=.returned (.bool (s.is f))∧Below w.heap.size w w':=by
 by_cases h0:f<0
 · have:s.is f=false:=by unfold G.St.is;rw [decide_eq_false (by omega)];rfl
   rw [this]
   refine (sis_neg f h0).mono ?_
   rintro e w' ⟨rfl,rfl⟩
   exact ⟨rfl,Below.refl _ w⟩
 · obtain ⟨n,rfl⟩:∃ n:Nat,f=(n:Int):=⟨f.toNat,by omega⟩
   exact sis_nat h n (by omega)
theorem is_lt {s:G.St} (hp:PlFit s.pl) {f:Nat} (h:s.is (f:Int)=true):f<4194304:=by
 have h1:=hp.len
 have h2:=hp.room
 unfold G.St.is at h
 simp only [Int.toNat_natCast,Bool.and_eq_true,Bool.or_eq_true,beq_iff_eq] at h
 rcases h.2 with h|h
 · omega
 · have:=G.Pl.nd_lt (p:=s.pl) h
   omega
def TabLt (s:G.St):Prop:=∀ v,∀ e ∈ s.tab v,e.id<4194304
theorem find_mem {t:List G.Ent} {lo hi id:Nat} (h:G.findT t lo hi=some id):∃ e ∈ t,e.id=id:=by
 unfold G.findT at h
 cases hf:t.find? (fun e=>e.lo == lo && e.hi == hi) with
 | none=>rw [hf] at h;cases h
 | some e=>rw [hf] at h;injection h with h;exact ⟨e,List.mem_of_find?_eq_some hf,h⟩
theorem norm_eq (lo hi:Nat):G.norm lo hi=(G.flipIf lo (hi % 2 == 1),G.flipIf hi (hi % 2 == 1),(hi % 2 == 1)):=by
 unfold G.norm G.flipIf
 rcases Nat.mod_two_eq_zero_or_one hi with h|h <;> simp [h]
theorem smk_any {E w:World} {I m:PH} {ms:List PH} {S:Nat} {s s':G.St} {v lo hi:Int} {r er:Nat} (hm:s.mkE v lo hi=some (s',r,er)) (hlo:lo<9223372036854775808) (hhi:hi<9223372036854775808) (hT:TabLt s) (hA:StAt S s m) (hS:Sat E I (m::ms) w) :
  Calls Tryz.prog 105 #[vPt S,.int .i64 v,.int .i64 lo,.int .i64 hi] w fun e w'=>e=.returned (.tuple #[nv r,nv er])∧∃ m',StAt S s' m'∧Sat E I (m'::ms) w':=by
 have hp:PlFit s.pl:=by obtain ⟨_,_,P,_,_,_,_,_,_,_,mP,_,_,_,_,_,_,hP,_⟩:=hA;exact hP.1
 obtain ⟨J,lJ,mJ,hS,back⟩:=hS.ice
 have hR:=hA.read.le mJ
 have Hback:=yH back
 have HA:=yH hA
 have HL:=yH (fun (w':World) (hle:J.le (Qa w'))=>slevel_any (hR.le hle) v)
 have HI1:=yH (fun (w':World) (hle:J.le (Qa w'))=>sis_any (hR.le hle) lo hlo)
 have HI2:=yH (fun (w':World) (hle:J.le (Qa w'))=>sis_any (hR.le hle) hi hhi)
 have HR:=yH hR
 clear back hA hR mJ lJ
 unfold G.St.mkE at hm
 by_cases c1:s.level v<0
 · rw [if_pos c1] at hm
   cases hm
   clear HI1 HI2 HR hp
   go_enter Tryz.func105,Tryz.ntmps105
   go_wp2_with ( (go_at_call 71;(with_reducible refine yI (HL.out _ hS.ile) ?_);rintro e w ⟨rfl,rfl⟩) )
   go_ret2
   exact ⟨rfl,m,HA.out,Hback.out _ _ hS⟩
 rw [if_neg c1] at hm
 cases b1:s.is lo with
 | false =>
   rw [b1] at hm HI1
   cases hm
   clear HI2 HR hp
   go_enter Tryz.func105,Tryz.ntmps105
   go_wp2_with (first|(go_at_call 71;(with_reducible refine yI (HL.out _ hS.ile) ?_);rintro e w ⟨rfl,rfl⟩)|(go_at_call 103;  ((with_reducible refine yI (HI1.out _ hS.ile) ?_);rintro e w ⟨rfl,hb⟩;replace hS:=hS.below_ hb;clear hb) ) )
   go_ret2
   exact ⟨rfl,m,HA.out,Hback.out _ _ hS⟩
 | true =>
 cases b2:s.is hi with
 | false =>
   rw [b1,b2] at hm
   rw [b1] at HI1
   rw [b2] at HI2
   cases hm
   clear HR hp
   go_enter Tryz.func105,Tryz.ntmps105
   go_wp2_with (first|(go_at_call 71;(with_reducible refine yI (HL.out _ hS.ile) ?_);rintro e w ⟨rfl,rfl⟩)|(go_at_call 103;first|((with_reducible refine yI (HI1.out _ hS.ile) ?_);rintro e w ⟨rfl,hb⟩;replace hS:=hS.below_ hb;clear hb)|((with_reducible refine yI (HI2.out _ hS.ile) ?_);rintro e w ⟨rfl,hb⟩;replace hS:=hS.below_ hb;clear hb))|((with_reducible refine Qc ?_);  ((with_reducible refine Qp ?_);  ((with_reducible refine Qi ?hw ?_);case hw=>(simp only [Region.wanted,yielded,zC,zA,zB,zK,beq_self_eq_true];done)) ) ))
   go_ret2
   exact ⟨rfl,m,HA.out,Hback.out _ _ hS⟩
 | true =>
 rw [b1,b2] at hm
 simp only [Bool.and_self,Bool.not_true,Bool.false_eq_true,if_false] at hm
 obtain ⟨a,rfl⟩:∃ a:Nat,lo=(a:Int):=⟨lo.toNat,by have:0≤lo:=by { unfold G.St.is at b1;simp only [Bool.and_eq_true,decide_eq_true_eq] at b1;exact b1.1 };omega⟩
 obtain ⟨b,rfl⟩:∃ b:Nat,hi=(b:Int):=⟨hi.toNat,by have:0≤hi:=by { unfold G.St.is at b2;simp only [Bool.and_eq_true,decide_eq_true_eq] at b2;exact b2.1 };omega⟩
 have hA1:=is_lt hp b1
 have hB1:=is_lt hp b2
 have hA2:a<4611686018427387904:=by omega
 have hB2:b<4611686018427387904:=by omega
 clear hlo hhi
 rw [b1] at HI1
 rw [b2] at HI2
 simp only [Int.toNat_natCast] at hm
 have HU1:=yH (fun (w':World) (hle:J.le (Qa w'))=>sunder_any (HR.out.le hle) a (s.level v) (by omega))
 have HU2:=yH (fun (w':World) (hle:J.le (Qa w'))=>sunder_any (HR.out.le hle) b (s.level v) (by omega))
 cases u1:s.under a (s.level v) with
 | false =>
   rw [u1] at hm HU1
   cases hm
   clear HU2 HR hp
   go_enter Tryz.func105,Tryz.ntmps105
   go_wp2_with (first|(go_at_call 71;(with_reducible refine yI (HL.out _ hS.ile) ?_);rintro e w ⟨rfl,rfl⟩)|(go_at_call 103;first|((with_reducible refine yI (HI1.out _ hS.ile) ?_);rintro e w ⟨rfl,hb⟩;replace hS:=hS.below_ hb;clear hb)|((with_reducible refine yI (HI2.out _ hS.ile) ?_);rintro e w ⟨rfl,hb⟩;replace hS:=hS.below_ hb;clear hb))|(go_at_call 132;  ((with_reducible refine yI (HU1.out _ hS.ile) ?_);rintro e w ⟨rfl,hb⟩;replace hS:=hS.below_ hb;clear hb) )|((with_reducible refine Qc ?_);  ((with_reducible refine Qp ?_);  ((with_reducible refine Qi ?hw ?_);case hw=>(simp only [Region.wanted,yielded,zC,zA,zB,zK,beq_self_eq_true];done)) ) ))
   go_ret2
   exact ⟨rfl,m,HA.out,Hback.out _ _ hS⟩
 | true =>
 cases u2:s.under b (s.level v) with
 | false =>
   rw [u1,u2] at hm
   rw [u1] at HU1
   rw [u2] at HU2
   cases hm
   clear HR hp
   go_enter Tryz.func105,Tryz.ntmps105
   go_wp2_with (first|(go_at_call 71;(with_reducible refine yI (HL.out _ hS.ile) ?_);rintro e w ⟨rfl,rfl⟩)|(go_at_call 103;first|((with_reducible refine yI (HI1.out _ hS.ile) ?_);rintro e w ⟨rfl,hb⟩;replace hS:=hS.below_ hb;clear hb)|((with_reducible refine yI (HI2.out _ hS.ile) ?_);rintro e w ⟨rfl,hb⟩;replace hS:=hS.below_ hb;clear hb))|(go_at_call 132;first|((with_reducible refine yI (HU1.out _ hS.ile) ?_);rintro e w ⟨rfl,hb⟩;replace hS:=hS.below_ hb;clear hb)|((with_reducible refine yI (HU2.out _ hS.ile) ?_);rintro e w ⟨rfl,hb⟩;replace hS:=hS.below_ hb;clear hb))|((with_reducible refine Qc ?_);  ((with_reducible refine Qp ?_);  ((with_reducible refine Qi ?hw ?_);case hw=>(simp only [Region.wanted,yielded,zC,zA,zB,zK,beq_self_eq_true];done)) ) ))
   go_ret2
   exact ⟨rfl,m,HA.out,Hback.out _ _ hS⟩
 | true =>
 rw [u1,u2] at hm
 rw [u1] at HU1
 rw [u2] at HU2
 simp only [Bool.and_self,Bool.not_true,Bool.false_eq_true,if_false] at hm
 by_cases hab:(a:Int)=(b:Int)
 · rw [if_pos hab] at hm
   obtain rfl:a=b:=by omega
   cases hm
   clear HR hp hab
   go_enter Tryz.func105,Tryz.ntmps105
   go_wp2_with (first|(go_at_call 71;(with_reducible refine yI (HL.out _ hS.ile) ?_);rintro e w ⟨rfl,rfl⟩)|(go_at_call 103;  ((with_reducible refine yI (HI1.out _ hS.ile) ?_);rintro e w ⟨rfl,hb⟩;replace hS:=hS.below_ hb;clear hb) )|(go_at_call 132;  ((with_reducible refine yI (HU1.out _ hS.ile) ?_);rintro e w ⟨rfl,hb⟩;replace hS:=hS.below_ hb;clear hb) )|((with_reducible refine Qc ?_);  ((with_reducible refine Qp ?_);  ((with_reducible refine Qi ?hw ?_);case hw=>(simp only [Region.wanted,yielded,zC,zA,zB,zK,beq_self_eq_true];done)) ) ))
   go_ret2
   exact ⟨rfl,m,HA.out,Hback.out _ _ hS⟩
 rw [if_neg hab,norm_eq] at hm
 simp only [] at hm
 have hv0:0≤v∧v<s.lev.length:=by
  refine Classical.byContradiction fun hc=>c1 ?_
  unfold G.St.level
  rw [if_neg hc]
  decide
 obtain ⟨x,rfl⟩:∃ x:Nat,v=(x:Int):=⟨v.toNat,by omega⟩
 rw [Int.toNat_natCast] at hm
 by_cases hx:x<s.tabs.length
 case neg=>rw [if_neg hx] at hm;cases hm
 rw [if_pos hx] at hm
 obtain ⟨h0,L,P,vV,vL,vT,vC,gs,h1,h2,i3,h4,h5,h6,h7,h8,h9,hP,h11,hgs,h13,h14⟩:=HR.out
 obtain ⟨T,cT,rfl,hgt⟩:=h13 (by omega)
 have hg:=yA (l:=gs) (i:=x) (by omega)
 have htt:=yA (l:=s.tabs) (i:=x) hx
 have htb:s.tabs[x]=s.tab x:=by unfold G.St.tab;rw [yD,htt];rfl
 have iT:=hgt x _ hg
 have hTab:=h14 x _ _ hg htt
 rw [htb] at hTab
 generalize gs[x]=g at *
 have hxi:(x:Int)<(s.tabs.length:Int):=by omega
 have hx64:s.tabs.length≤64:=h0.tabs
 generalize hl:G.flipIf a (b % 2 == 1)=l at *
 generalize hh:G.flipIf b (b % 2 == 1)=h at *
 have hA3:l<4611686018427387904:=by rw [← hl];exact Kw hA2 _
 have hB3:h<4611686018427387904:=by rw [← hh];exact Kw hB2 _
 have hno:=fun w'=>enorm_any w' a b hA2 hB2
 rw [hl,hh] at hno
 have HNo:=yH hno
 have hF:=fun (w':World) (hle:J.le (Qa w'))=>tfind_any (hTab.le hle) l h
 clear h1 h2 h4 h5 h6 h7 h8 h9 hP h11 hgs h13 h14 hno HR hg htt hgt
 cases hf:G.findT (s.tab x) l h with
 | some id =>
   rw [hf] at hm hF
   cases hm
   have hidl:id<4194304:=by obtain ⟨e,he,hi⟩:=find_mem hf;rw [← hi];exact hT _ e he
   have HF:=yH hF
   clear hF hTab hp hT hf
   go_enter Tryz.func105,Tryz.ntmps105
   go_wp2_with (first|(go_at_call 71;(with_reducible refine yI (HL.out _ hS.ile) ?_);rintro e w ⟨rfl,rfl⟩)|(go_at_call 103;first|((with_reducible refine yI (HI1.out _ hS.ile) ?_);rintro e w ⟨rfl,hb⟩;replace hS:=hS.below_ hb;clear hb)|((with_reducible refine yI (HI2.out _ hS.ile) ?_);rintro e w ⟨rfl,hb⟩;replace hS:=hS.below_ hb;clear hb))|(go_at_call 132;first|((with_reducible refine yI (HU1.out _ hS.ile) ?_);rintro e w ⟨rfl,hb⟩;replace hS:=hS.below_ hb;clear hb)|((with_reducible refine yI (HU2.out _ hS.ile) ?_);rintro e w ⟨rfl,hb⟩;replace hS:=hS.below_ hb;clear hb))|(go_at_call 133;(with_reducible refine yI (HNo.out _) ?_);rintro e w ⟨rfl,rfl⟩)|(go_at_call 134;(with_reducible refine yI (HF.out _ hS.ile) ?_);rintro e w ⟨rfl,rfl⟩)|(go_at_call 54;(with_reducible refine yI (eof_any _ _ _ hidl) ?_);rintro e w ⟨rfl,rfl⟩)|((with_reducible refine Qc ?_);first|((with_reducible refine Qp ?_);  ((with_reducible refine Qi ?hw ?_);case hw=>(simp only [Region.wanted,yielded,zC,zA,zB,zK,beq_self_eq_true];done)) )|((with_reducible refine Qb ?_);( ((refine' Ka (v:=_) hS rfl rfl ?ha rfl ?hb ?_);(case ha=>first|exact Zi|exact Kx);(case hb=>assumption)));(try simp only [Act.put,zE,zF,zG]))))
   go_ret2
   exact ⟨rfl,m,HA.out,Hback.out _ _ hS⟩
 | none =>
   rw [hf] at hm hF
   have HF:=yH hF
   clear hF hTab hp hT hf
   simp only [] at hm
   cases had:s.add x l h with
   | none=>rw [had] at hm;cases hm
   | some o =>
     cases o with
     | none =>
       rw [had] at hm
       cases hm
       have HAd:=yH had
       clear had
       go_enter Tryz.func105,Tryz.ntmps105
       go_wp2_with (first|(go_at_call 71;(with_reducible refine yI (HL.out _ hS.ile) ?_);rintro e w ⟨rfl,rfl⟩)|(go_at_call 103;first|((with_reducible refine yI (HI1.out _ hS.ile) ?_);rintro e w ⟨rfl,hb⟩;replace hS:=hS.below_ hb;clear hb)|((with_reducible refine yI (HI2.out _ hS.ile) ?_);rintro e w ⟨rfl,hb⟩;replace hS:=hS.below_ hb;clear hb))|(go_at_call 132;first|((with_reducible refine yI (HU1.out _ hS.ile) ?_);rintro e w ⟨rfl,hb⟩;replace hS:=hS.below_ hb;clear hb)|((with_reducible refine yI (HU2.out _ hS.ile) ?_);rintro e w ⟨rfl,hb⟩;replace hS:=hS.below_ hb;clear hb))|(go_at_call 133;(with_reducible refine yI (HNo.out _) ?_);rintro e w ⟨rfl,rfl⟩)|(go_at_call 134;(with_reducible refine yI (HF.out _ hS.ile) ?_);rintro e w ⟨rfl,rfl⟩)|(go_at_call 135;(with_reducible refine yI (sadd_none HAd.out HA.out (Hback.out _ _ hS)) ?_);clear hS;rintro e w ⟨rfl,hfin⟩;have Hfin:=yH hfin;clear hfin)|((with_reducible refine Qc ?_);first|((with_reducible refine Qp ?_);  ((with_reducible refine Qi ?hw ?_);case hw=>(simp only [Region.wanted,yielded,zC,zA,zB,zK,beq_self_eq_true];done)) )|((with_reducible refine Qb ?_);( ((refine' Ka (v:=_) hS rfl rfl ?ha rfl ?hb ?_);(case ha=>first|exact Zi|exact Kx);(case hb=>assumption)));(try simp only [Act.put,zE,zF,zG]))))
       go_ret2
       exact ⟨rfl,Hfin.out⟩
     | some q =>
       obtain ⟨s1,id⟩:=q
       rw [had] at hm
       cases hm
       have HAd:=yH had
       have hidl:id<4194304:=by
        unfold G.St.add at had
        split at had
        · cases had
        · cases had
        · split at had
          · rename_i hc
            injection had with had;injection had with had;injection had with _ h2
            subst h2
            exact hc.2.1
          · cases had
       clear had
       go_enter Tryz.func105,Tryz.ntmps105
       go_wp2_with (first|(go_at_call 71;(with_reducible refine yI (HL.out _ hS.ile) ?_);rintro e w ⟨rfl,rfl⟩)|(go_at_call 103;first|((with_reducible refine yI (HI1.out _ hS.ile) ?_);rintro e w ⟨rfl,hb⟩;replace hS:=hS.below_ hb;clear hb)|((with_reducible refine yI (HI2.out _ hS.ile) ?_);rintro e w ⟨rfl,hb⟩;replace hS:=hS.below_ hb;clear hb))|(go_at_call 132;first|((with_reducible refine yI (HU1.out _ hS.ile) ?_);rintro e w ⟨rfl,hb⟩;replace hS:=hS.below_ hb;clear hb)|((with_reducible refine yI (HU2.out _ hS.ile) ?_);rintro e w ⟨rfl,hb⟩;replace hS:=hS.below_ hb;clear hb))|(go_at_call 133;(with_reducible refine yI (HNo.out _) ?_);rintro e w ⟨rfl,rfl⟩)|(go_at_call 134;(with_reducible refine yI (HF.out _ hS.ile) ?_);rintro e w ⟨rfl,rfl⟩)|(go_at_call 135;(with_reducible refine yI (sadd_some HAd.out hA3 hB3 HA.out (Hback.out _ _ hS)) ?_);clear hS;rintro e w ⟨rfl,hfin⟩;have Hfin:=yH hfin;clear hfin)|(go_at_call 54;(with_reducible refine yI (eof_any _ _ _ hidl) ?_);rintro e w ⟨rfl,rfl⟩)|((with_reducible refine Qc ?_);first|((with_reducible refine Qp ?_);  ((with_reducible refine Qi ?hw ?_);case hw=>(simp only [Region.wanted,yielded,zC,zA,zB,zK,beq_self_eq_true];done)) )|((with_reducible refine Qb ?_);( ((refine' Ka (v:=_) hS rfl rfl ?ha rfl ?hb ?_);(case ha=>first|exact Zi|exact Kx);(case hb=>assumption)));(try simp only [Act.put,zE,zF,zG]))))
       go_ret2
       exact ⟨rfl,Hfin.out⟩
end
section
open Go.RowKit
theorem add_lt {s s1:G.St} {x l h id:Nat} (had:s.add x l h=some (some (s1,id))):id<4194304:=by
 unfold G.St.add at had
 split at had
 · cases had
 · cases had
 · split at had
   · rename_i hc
     injection had with had;injection had with had;injection had with _ h2
     subst h2
     exact hc.2.1
   · cases had
theorem sbelow_any {E w:World} {I m:PH} {ms:List PH} {S:Nat} {s s':G.St} {x a b r:Nat} (hm:s.below x a b=some (s',r)) (hx:x<s.tabs.length) (hA2:a<4611686018427387904) (hB2:b<4611686018427387904) (hT:TabLt s) (hA:StAt S s m) (hS:Sat E I (m::ms) w) :
  Calls Tryz.prog 146 #[vPt S,nv x,nv a,nv b] w fun e w'=>e=.returned (nv r)∧∃ m',StAt S s' m'∧Sat E I (m'::ms) w':=by
 obtain ⟨J,lJ,mJ,hS,back⟩:=hS.ice
 have hR:=hA.read.le mJ
 have Hback:=yH back
 have HA:=yH hA
 clear back hA mJ lJ
 unfold G.St.below at hm
 by_cases hab:a=b
 · rw [if_pos hab] at hm
   subst hab
   cases hm
   clear hR hT
   go_enter Tryz.func146,Tryz.ntmps146
   go_wp2_with (fail)
   go_ret
   exact ⟨rfl,m,HA.out,Hback.out _ _ hS⟩
 rw [if_neg hab,norm_eq] at hm
 simp only [] at hm
 have hab':¬ (a:Int)=(b:Int):=by omega
 obtain ⟨h0,L,P,vV,vL,vT,vC,gs,h1,h2,i3,h4,h5,h6,h7,h8,h9,hP,h11,hgs,h13,h14⟩:=hR
 obtain ⟨T,cT,rfl,hgt⟩:=h13 (by omega)
 have hg:=yA (l:=gs) (i:=x) (by omega)
 have htt:=yA (l:=s.tabs) (i:=x) hx
 have htb:s.tabs[x]=s.tab x:=by unfold G.St.tab;rw [yD,htt];rfl
 have iT:=hgt x _ hg
 have hTab:=h14 x _ _ hg htt
 rw [htb] at hTab
 generalize gs[x]=g at *
 have hxi:(x:Int)<(s.tabs.length:Int):=by omega
 have hx64:s.tabs.length≤64:=h0.tabs
 generalize hl:G.flipIf a (b % 2 == 1)=l at *
 generalize hh:G.flipIf b (b % 2 == 1)=h at *
 have hA3:l<4611686018427387904:=by rw [← hl];exact Kw hA2 _
 have hB3:h<4611686018427387904:=by rw [← hh];exact Kw hB2 _
 have hno:=fun w'=>enorm_any w' a b hA2 hB2
 rw [hl,hh] at hno
 have HNo:=yH hno
 have hF:=fun (w':World) (hle:J.le (Qa w'))=>tfind_any (hTab.le hle) l h
 clear h1 h2 h4 h5 h6 h7 h8 h9 hP h11 hgs h13 h14 hno hg htt hgt h0
 cases hf:G.findT (s.tab x) l h with
 | some id =>
   rw [hf] at hm hF
   cases hm
   have hidl:id<4194304:=by obtain ⟨e,he,hi⟩:=find_mem hf;rw [← hi];exact hT _ e he
   have HF:=yH hF
   clear hF hTab hT hf
   go_enter Tryz.func146,Tryz.ntmps146
   go_wp2_with (first|(go_at_call 133;(with_reducible refine yI (HNo.out _) ?_);rintro e w ⟨rfl,rfl⟩)|(go_at_call 134;(with_reducible refine yI (HF.out _ hS.ile) ?_);rintro e w ⟨rfl,rfl⟩)|(go_at_call 54;(with_reducible refine yI (eof_any _ _ _ hidl) ?_);rintro e w ⟨rfl,rfl⟩)|((with_reducible refine Qc ?_);first|((with_reducible refine Qb ?_);( ((refine' Ka (v:=_) hS rfl rfl ?ha rfl ?hb ?_);(case ha=>first|exact Zi|exact Kx);(case hb=>assumption)));(try simp only [Act.put,zE,zF,zG]))))
   go_ret
   exact ⟨rfl,m,HA.out,Hback.out _ _ hS⟩
 | none =>
   rw [hf] at hm hF
   have HF:=yH hF
   clear hF hTab hT hf
   simp only [] at hm
   cases had:s.add x l h with
   | none=>rw [had] at hm;cases hm
   | some o =>
     cases o with
     | none=>rw [had] at hm;cases hm
     | some q =>
       obtain ⟨s1,id⟩:=q
       rw [had] at hm
       cases hm
       have HAd:=yH had
       have hidl:=add_lt had
       clear had
       go_enter Tryz.func146,Tryz.ntmps146
       go_wp2_with (first|(go_at_call 133;(with_reducible refine yI (HNo.out _) ?_);rintro e w ⟨rfl,rfl⟩)|(go_at_call 134;(with_reducible refine yI (HF.out _ hS.ile) ?_);rintro e w ⟨rfl,rfl⟩)|(go_at_call 135;(with_reducible refine yI (sadd_some HAd.out hA3 hB3 HA.out (Hback.out _ _ hS)) ?_);clear hS;rintro e w ⟨rfl,hfin⟩;have Hfin:=yH hfin;clear hfin)|(go_at_call 54;(with_reducible refine yI (eof_any _ _ _ hidl) ?_);rintro e w ⟨rfl,rfl⟩)|((with_reducible refine Qc ?_);first|((with_reducible refine Qb ?_);( ((refine' Ka (v:=_) hS rfl rfl ?ha rfl ?hb ?_);(case ha=>first|exact Zi|exact Kx);(case hb=>assumption)));(try simp only [Act.put,zE,zF,zG]))))
       go_ret
       exact ⟨rfl,Hfin.out⟩
end
end Go.Proofs.YtidamcdklgfogaaGreat
