import Derived.Test.YtidamcdklgfogaaGreatZab
import Derived.Test.YtidamcdklgfogaaGreatZbv
import Derived.Test.YtidamcdklgfogaaGreatZbx
set_option linter.unusedSimpArgs false
set_option linter.unusedVariables false
set_option maxRecDepth 100000
set_option maxHeartbeats 8000000
namespace Go.Proofs.YtidamcdklgfogaaGreat
section
open Go.RowKit
theorem Kr (a b:ByteArray):lst (a ++ b)=lst a ++ lst b:=by
 unfold lst
 rw [ByteArray.data_append,Array.toList_append,List.map_append]
def rowT (r:G.Rw3):List Nat:=txt r.v ++ [32] ++ txt r.lo ++ [32] ++ txt r.hi ++ [10]
def Xp (e:Int):List Nat:=32::txt e
def textD (rows:List G.Rw3) (roots:List Int):List Nat:=rows.flatMap rowT ++ [114,111,111,116,115] ++ roots.flatMap Xp ++ [10]
theorem txt_len (n:Int) (h:I64 n):(txt n).length≤20:=by
 rw [← Xq,lst_length];exact Xl n h
theorem RowFit.i64 {r:G.Rw3} (h:RowFit r):I64 r.v∧I64 r.lo∧I64 r.hi:=by
 obtain ⟨⟨a,b⟩,⟨c,d⟩,e,f⟩:=h
 exact ⟨⟨a,by omega⟩,⟨c,by omega⟩,⟨e,by omega⟩⟩
theorem flatN_len {α:Type} (f:α→List Nat) (c:Nat):∀ (l:List α),(∀ x ∈ l,(f x).length≤c)→(l.flatMap f).length≤l.length * c
 | [],_=>by simp
 | x::l,h=>by
   have h1:=flatN_len f c l fun y hy=>h y (.tail _ hy)
   have h2:=h x (.head _)
   rw [List.flatMap_cons,yG,yB,Nat.succ_mul];omega
theorem rowT_len {r:G.Rw3} (h:RowFit r):(rowT r).length≤63:=by
 obtain ⟨a,b,c⟩:=h.i64
 have h1:=txt_len _ a
 have h2:=txt_len _ b
 have h3:=txt_len _ c
 unfold rowT
 simp only [yG,yB,yC];omega
def TextR (rows:List G.Rw3) (roots:List Int):List Nat:=if G.rightB rows roots then textD rows roots else []
theorem textD_lt (rows:List G.Rw3) (roots:List Int):∀ c ∈ textD rows roots,c<256:=fun c hc=>by
 unfold textD rowT Xp at hc
 simp only [List.mem_append,List.mem_flatMap,List.mem_cons,List.not_mem_nil,or_false] at hc
 rcases hc with ((⟨r,_,((((h|h)|h)|h)|h)|h⟩|h)|⟨e,_,h|h⟩)|h
 all_goals first|exact txt_lt _ c h|omega
theorem dtext_any {W:World} {vl vr:Value} {rows:List G.Rw3} {roots:List Int} (hl:Row3o (Qa W) vl rows) (hr:IntRo (Qa W) vr roots) (hn:rows.length<1152921504606846976) (hm:roots.length≤1000) (hf:∀ r ∈ rows,RowFit r) (hg:∀ e ∈ roots,-9223372036854775808≤e∧e<9223372036854775808) :
  Calls Tryz.prog 8 #[vl,vr] W fun e w'=>(∃ str er,e=.returned (.tuple #[.string str,nv er])∧lst str=TextR rows roots∧er=(if G.rightB rows roots then 0 else 3))∧Below W.heap.size W w':=by
 have HRt:=yH (fun (w:World) (h:(Qa W).le (Qa w))=>dright_any (hl.le h) (hr.le h) hn (by omega) hf hg)
 obtain ⟨A,c,rfl,hcl⟩:=hl
 obtain ⟨B,d,rfl,hcr⟩:=hr
 have HCl:=yH hcl
 have HCr:=yH hcr
 have HF:=yH hf
 have HG:=yH hg
 have hS:=Sat.start W
 clear hcl hcr hf hg
 cases hr:G.rightB rows roots with
 | false =>
   rw [hr] at HRt
   have HT:=yH (show TextR rows roots=[] by unfold TextR;rw [hr];rfl)
   simp only [Bool.false_eq_true,if_false]
   go_enter Tryz.func8,Tryz.ntmps8
   go_wp2_with ( (go_at_call 30;(with_reducible refine yI (HRt.out _ hS.ile) ?_);rintro e w2 ⟨rfl,hb⟩;replace hS:=hS.below_ hb;clear hb) )
   go_ret2
   refine ⟨⟨⟨#[]⟩,3,?_,HT.out.symm,rfl⟩,hS.end_ (PH.le.refl _)⟩
   rfl
 | true =>
   rw [hr] at HRt
   have HT:=yH (show TextR rows roots=textD rows roots by unfold TextR;rw [hr];rfl)
   simp only [if_true]
   obtain ⟨_,h40⟩:=G.rightB_roots hr
   clear hr
   generalize hN:rows.length=N at *
   generalize hM:roots.length=M at *
   have HNn:=yH hN
   have HMm:=yH hM
   have hL1:∀ i,i≤N→((rows.take i).flatMap rowT).length≤258048:=fun i hi=>by
    have:=flatN_len rowT 63 (rows.take i) fun x hx=>rowT_len (HF.out x (List.mem_of_mem_take hx))
    rw [List.length_take,Nat.min_eq_left (by omega)] at this
    omega
   have HL1:=yH hL1
   have hL2:∀ j,j≤M→((roots.take j).flatMap Xp).length≤21000:=fun j hj=>by
    have:=flatN_len Xp 21 (roots.take j) fun x hx=>by
     have h:=HG.out x (List.mem_of_mem_take hx)
     have:=txt_len x ⟨h.1,by omega⟩
     unfold Xp
     rw [yB];omega
    rw [List.length_take,Nat.min_eq_left (by omega)] at this
    omega
   have HL2:=yH hL2
   clear hN hM hL1 hL2
   go_enter Tryz.func8,Tryz.ntmps8
   go_wp2_with (first|(go_at_call 30;(with_reducible refine yI (HRt.out _ hS.ile) ?_);rintro e w2 ⟨rfl,hb⟩;replace hS:=hS.below_ hb;clear hb)|((with_reducible refine Qc ?_);  ((with_reducible refine Ql 6 ?_);(refine' al (z:=_) hS rfl rfl ?ha ?_);(case ha=>exact ty_z75);clear hS;intro X6 w hS;(try simp only [Value.cells] at hS);(try simp only [Act.put,zE,zF,zG])) ))
   go_loopw [17] (fun v17 wr=>∃ (i:Nat) (mb mr:PH),i≤N∧v17=.int .i64 (i:Int)∧Bld X6 ((rows.take i).flatMap rowT) mb mr∧Sat W (Qa W) (mb::mr::[]) wr) (fun v17 _=>(N - intOf v17).toNat)
   case atStart=>exact ⟨0,_,Xc,Nat.zero_le _,rfl,⟨none,_,rfl,.inl rfl,OwnP.nil _ _⟩,hS.empty.perm (List.Perm.swap _ _ _)⟩
   case round =>
    clear hS HRt
    obtain ⟨i,mb,mr,hi,rfl,hB,hS⟩:=hrel
    by_cases hlt:i<N
    · obtain ⟨r,hr⟩:∃ r,rows[i]?=some r:=⟨_,yA (by rw [HNn.out];exact hlt)⟩
      obtain ⟨Y,oY,hA,hcell⟩:=HCl.out (by omega)
      subst hA
      have hcell:=hcell i r hr
      have iN:(i:Int)<(N:Int):=by omega
      obtain ⟨f1,f2,f3⟩:=(HF.out r (List.mem_of_getElem? hr)).i64
      have htk:(rows.take (i+1)).flatMap rowT=(rows.take i).flatMap rowT ++ rowT r:=by rw [List.take_add_one,hr,List.flatMap_append];simp
      have hlen:=HL1.out i hi
      have hlen2:=HL1.out (i+1) (by omega)
      rw [htk,yG] at hlen2
      clear hr HCl
      obtain ⟨rv,lo,hi'⟩:=r
      simp only at f1 f2 f3
      have T1:=yH (fun w:World=>text_any rv w f1)
      have T2:=yH (fun w:World=>text_any lo w f2)
      have T3:=yH (fun w:World=>text_any hi' w f3)
      have z1:=Xl rv f1
      have z2:=Xl lo f2
      have z3:=Xl hi' f3
      have y1:=Xq rv
      have y2:=Xq lo
      have y3:=Xq hi'
      generalize Yw rv=s1 at *
      generalize Yw lo=s2 at *
      generalize Yw hi'=s3 at *
      obtain ⟨a1,ha1⟩:∃ a:ByteArray,s1 ++ (⟨#[32]⟩:ByteArray)=a:=⟨_,rfl⟩
      have n1:¬ 9223372036854775807<s1.size+1:=by omega
      have m1:¬ 9223372036854775807<(s1).size+((⟨#[32]⟩:ByteArray)).size:=n1
      have q1:a1.size=s1.size+1:=by rw [← ha1];exact ByteArray.size_append
      have w1:lst a1=lst s1 ++ lst (⟨#[32]⟩:ByteArray):=by rw [← ha1];exact Kr _ _
      obtain ⟨a2,ha2⟩:∃ a:ByteArray,a1 ++ s2=a:=⟨_,rfl⟩
      have n2:¬ 9223372036854775807<a1.size+s2.size:=by omega
      have m2:¬ 9223372036854775807<(a1).size+(s2).size:=n2
      have q2:a2.size=a1.size+s2.size:=by rw [← ha2];exact ByteArray.size_append
      have w2:lst a2=lst a1 ++ lst s2:=by rw [← ha2];exact Kr _ _
      obtain ⟨a3,ha3⟩:∃ a:ByteArray,a2 ++ (⟨#[32]⟩:ByteArray)=a:=⟨_,rfl⟩
      have n3:¬ 9223372036854775807<a2.size+1:=by omega
      have m3:¬ 9223372036854775807<(a2).size+((⟨#[32]⟩:ByteArray)).size:=n3
      have q3:a3.size=a2.size+1:=by rw [← ha3];exact ByteArray.size_append
      have w3:lst a3=lst a2 ++ lst (⟨#[32]⟩:ByteArray):=by rw [← ha3];exact Kr _ _
      obtain ⟨a4,ha4⟩:∃ a:ByteArray,a3 ++ s3=a:=⟨_,rfl⟩
      have n4:¬ 9223372036854775807<a3.size+s3.size:=by omega
      have m4:¬ 9223372036854775807<(a3).size+(s3).size:=n4
      have q4:a4.size=a3.size+s3.size:=by rw [← ha4];exact ByteArray.size_append
      have w4:lst a4=lst a3 ++ lst s3:=by rw [← ha4];exact Kr _ _
      obtain ⟨a5,ha5⟩:∃ a:ByteArray,a4 ++ (⟨#[10]⟩:ByteArray)=a:=⟨_,rfl⟩
      have n5:¬ 9223372036854775807<a4.size+1:=by omega
      have m5:¬ 9223372036854775807<(a4).size+((⟨#[10]⟩:ByteArray)).size:=n5
      have q5:a5.size=a4.size+1:=by rw [← ha5];exact ByteArray.size_append
      have w5:lst a5=lst a4 ++ lst (⟨#[10]⟩:ByteArray):=by rw [← ha5];exact Kr _ _
      have hrow:rowT ⟨rv,lo,hi'⟩=lst a5:=by
       rw [w5,w4,w3,w2,w1,y1,y2,y3];rfl
      have HTk:=yH (htk.trans (by rw [hrow]))
      have hz5:((rows.take i).flatMap rowT).length+a5.size≤1000000:=by omega
      generalize (rows.take i).flatMap rowT=cur at *
      clear htk hrow hlen hlen2 w1 w2 w3 w4 w5 y1 y2 y3 q1 q2 q3 q4 q5 z1 z2 z3 f1 f2 f3
      have HB:=yH hB
      clear hB
      go_wp2_with (first|((with_reducible refine Qb ?_);(refine ldPN hS.ile rfl rfl Kt rfl hcell Qw ?_);(try simp only [Act.put,zE,zF,zG]))|((with_reducible refine Qc ?_);first|((with_reducible refine Ql 8 ?_);(refine' al (z:=_) hS rfl rfl ?ha ?_);(case ha=>exact Zz);clear hS;intro X8 w hS;(try simp only [Value.cells] at hS);(try simp only [Act.put,zE,zF,zG]))|((with_reducible refine Qn ?_);(first|(refine stN 0 hS rfl rfl rfl rfl rfl ?ha rfl rfl ?_;(case ha=>exact Qw)));clear hS;intro w hS;(try simp only [zG,Act.eval,zD,zC,zA,zB,zJ,Value.cells] at hS);(try simp only [Act.put])) ))
      obtain ⟨I8,l8,m8,hS8,b8⟩:=hS.ice
      have i80:I8.at X8 0=some (.int .i64 rv):=PH.at_le m8 (Qk rfl)
      have i81:I8.at X8 1=some (.int .i64 lo):=PH.at_le m8 (Qk rfl)
      have i82:I8.at X8 2=some (.int .i64 hi'):=PH.at_le m8 (Qk rfl)
      have B8:=yH b8
      clear hS l8 m8 b8
      refine Zc (fun _ _=>False) [[],[0],[0,1],[0,1,2],[],[4],[0,1,2,4,5],[0,1,2,3,4,5,6],[0,1,2,3,4,5,6,7],[],[9],[0,1,2,4,5,6,9,10],[0,1,2,3,4,5,6,7,8,9,10,11],[0,1,2,3,4,5,6,7,8,9,10,11,12],[0,1,2,3,4,5,6,7,8,9,10,11,12,13]] W I8 _
       [fun v _=>v=.pointer (some ⟨X8,0,none⟩),fun v _=>v=.int .i64 rv,fun v _=>v=.string s1,fun v _=>v=.string a1,fun v _=>v=.pointer (some ⟨X8,1,none⟩),fun v _=>v=.int .i64 lo,fun v _=>v=.string s2,fun v _=>v=.string a2,fun v _=>v=.string a3,fun v _=>v=.pointer (some ⟨X8,2,none⟩),fun v _=>v=.int .i64 hi',fun v _=>v=.string s3,fun v _=>v=.string a4,fun v _=>v=.string a5,fun _ _=>True] [14]
       (fun s _ _ ns=>if s=0 then ns=mb::mr::[] else ∃ mb' mr',Bld X6 (cur ++ lst a5) mb' mr'∧ns=mb'::mr'::[]) (by kernel_rfl) (by kernel_rfl) (by decide) hS8 rfl ?last (fun _ _ _ _ _ _ h=>h) (fun _ _ _ _ _ _ h=>h) ?plain ?step ?hZ ?fin
      case last=>repeat (first|exact Lasting.nil|refine Lasting.cons (fun _ _ _ _ h=>h) ?_)
      case hZ=>exact fun _ _ _ _ h=>h.elim
      case plain=>clear hS8;(repeat' (first|exact trivial|apply And.intro)) <;> first|exact .inl rfl|(refine .inr ?_;intro s vals J bs w hstop hg hJ hS hG;clear hG;simp only [zH,zI,Given,Facts] at hg;simp only [Qd,Qh,Qe,Qj,zH,zI,zA,zB,zK,if_true,Act.put,zE,zF,zG,hg];refine ⟨?_⟩;refine Qm (fun K hK=>?_);have HK:=yH hK;clear hK;rw [if_pos (by rfl)];(first|((with_reducible refine Qs ?_);  ((refine' Qq (v:=_) hS hJ ?ha rfl ?hc ?_);(case ha=>first|exact Qf);(case hc=>assumption)) )|(go_wp2_with (first|(go_at_call 32;first|((with_reducible refine yI (T1.out _) ?_);rintro e w2 ⟨rfl,hb2⟩;replace hS:=hS.below_ hb2;clear hb2)|((with_reducible refine yI (T2.out _) ?_);rintro e w2 ⟨rfl,hb2⟩;replace hS:=hS.below_ hb2;clear hb2)|((with_reducible refine yI (T3.out _) ?_);rintro e w2 ⟨rfl,hb2⟩;replace hS:=hS.below_ hb2;clear hb2)))));refine HK.out _ _ ⟨rfl,J,PH.le.refl _,hS,?_⟩;clear HK;simp only [Facts];simp only [Qo,zH,zI,Act.put,zE,zF,zG,zD,zC,zA,zB,zJ])
      case step =>
       refine ⟨trivial,?_⟩
       clear hS8
       intro vals J bs w hg hJ hS hG
       have hG:bs=mb::mr::[]:=hG
       subst hG
       simp only [zH,zI,Given,Facts] at hg;simp only [Qd,Qh,Qe,Qj,zH,zI,zA,zB,zK,if_true,Act.put,zE,zF,zG,hg];refine ⟨?_⟩;refine Qm (fun K hK=>?_);have HK:=yH hK;clear hK;rw [if_pos (by rfl)]
       go_wp2_with (go_at_call 31;(refine yI (Yr W _ _ _ _ X6 _ _ _ hz5 HB.out hS) ?_);clear hS;rintro e w ⟨rfl,mb2,mr2,hB2,hS⟩;have HB2:=yH hB2;clear hB2)
       exact HK.out _ _ ⟨rfl,J,_,PH.le.refl _,hS,trivial,mb2,mr2,HB2.out,rfl⟩
      case fin =>
       intro vals J9 bs w hJ hg hS hG
       obtain ⟨mb2,mr2,hB2,hns⟩:=hG
       subst hns
       have hS:=B8.out _ _ (hS.less hJ)
       have HB2:=yH hB2
       clear hJ hB2 hS8
       simp only [yB,yC,Nat.reduceAdd,Below_,Facts,zH,zI,true_and,and_true] at hg;simp only [yB,yC,Nat.reduceAdd,Qd,Qh,Qe,zA,zB,zK,if_true,Act.put,zE,zF,zG,hg];refine ⟨?_⟩
       clear hg
       go_wp2_with (fail)
       exact ⟨⟨i+1,mb2,mr2,by omega,by go_num,by rw [HTk.out];exact HB2.out,hS.drop⟩,by simp [intOf];omega⟩
    · obtain rfl:i=N:=by omega
      have e:rows.take i=rows:=List.take_of_length_le (by rw [HNn.out];exact Nat.le_refl _)
      have hlen:=HL1.out i hi
      rw [e] at hB hlen
      have h8:=textD_lt rows roots
      have HD:=yH (show textD rows roots=rows.flatMap rowT ++ [114,111,111,116,115] ++ roots.flatMap Xp ++ [10] from rfl)
      generalize textD rows roots=T at *
      have hz1:(rows.flatMap rowT).length+(⟨#[114,111,111,116,115]⟩:ByteArray).size≤1000000:=by show _+5≤_;omega
      generalize rows.flatMap rowT=cur at *
      have HB:=yH hB
      clear hB HCl HF HL1 e
      go_wp2_with ( (go_at_call 31;(refine yI (Yr W _ _ _ _ X6 _ _ _ hz1 HB.out hS) ?_);clear hS;rintro e w ⟨rfl,mb1,mr1,hB1,hS⟩;have HB1:=yH hB1;clear hB1) )
      have hB1:Bld X6 (cur ++ [114,111,111,116,115]) mb1 mr1:=HB1.out
      have hlen1:(cur ++ [114,111,111,116,115]).length≤258053:=by rw [yG];show _+5≤_;omega
      generalize cur ++ [114,111,111,116,115]=base at *
      clear HB HB1
      go_loopw [40] (fun v40 wr=>∃ (j:Nat) (mb mr:PH),j≤M∧v40=.int .i64 (j:Int)∧Bld X6 (base ++ (roots.take j).flatMap Xp) mb mr∧Sat W (Qa W) (mb::mr::[]) wr) (fun v40 _=>(M - intOf v40).toNat)
      case atStart=>exact ⟨0,mb1,mr1,Nat.zero_le _,rfl,by simpa using hB1,hS⟩
      case round =>
       clear hS hB1
       obtain ⟨j,mb,mr,hj,rfl,hB,hS⟩:=hrel
       have hlj:=HL2.out j hj
       by_cases hlt2:j<M
       · obtain ⟨e,he⟩:∃ e,roots[j]?=some e:=⟨_,yA (by rw [HMm.out];exact hlt2)⟩
         obtain ⟨Z,oZ,hZ,hcell⟩:=HCr.out (by omega)
         subst hZ
         have hcell:=hcell j e he
         have jM:(j:Int)<(M:Int):=by omega
         have he2:I64 e:=by
          have h:=HG.out e (List.mem_of_getElem? he)
          exact ⟨h.1,by omega⟩
         have htk:base ++ (roots.take (j+1)).flatMap Xp=base ++ (roots.take j).flatMap Xp ++ Xp e:=by rw [List.take_add_one,he,List.flatMap_append,← List.append_assoc];simp
         have T1:=yH (fun w:World=>text_any e w he2)
         have z1:=Xl e he2
         have y1:=Xq e
         generalize Yw e=s1 at *
         obtain ⟨a1,ha1⟩:∃ a:ByteArray,(⟨#[32]⟩:ByteArray) ++ s1=a:=⟨_,rfl⟩
         have n1:¬ 9223372036854775807<1+s1.size:=by omega
         have m1:¬ 9223372036854775807<((⟨#[32]⟩:ByteArray)).size+(s1).size:=n1
         have q1:a1.size=1+s1.size:=by rw [← ha1];exact ByteArray.size_append
         have w1:lst a1=lst (⟨#[32]⟩:ByteArray) ++ lst s1:=by rw [← ha1];exact Kr _ _
         have hroot:Xp e=lst a1:=by rw [w1,y1];rfl
         have HTk:=yH (htk.trans (by rw [hroot]))
         have hz2:(base ++ (roots.take j).flatMap Xp).length+a1.size≤1000000:=by rw [yG];omega
         generalize base ++ (roots.take j).flatMap Xp=bj at *
         have HB:=yH hB
         clear hB he htk hroot w1 y1 q1 z1 he2 hlj HCr
         go_wp2_with (first|(go_at_call 32;(with_reducible refine yI (T1.out _) ?_);rintro e' w2 ⟨rfl,hb2⟩;replace hS:=hS.below_ hb2;clear hb2)|(go_at_call 31;(refine yI (Yr W _ _ _ _ X6 _ _ _ hz2 HB.out hS) ?_);clear hS;rintro e' w ⟨rfl,mb2,mr2,hB2,hS⟩;have HB2:=yH hB2;clear hB2)|((with_reducible refine Qc ?_);first|((with_reducible refine Qb ?_);( ((refine' Ka (v:=_) hS rfl rfl ?ha rfl ?hb ?_);(case ha=>exact Qf);(case hb=>assumption)));(try simp only [Act.put,zE,zF,zG]))))
         exact ⟨⟨j+1,mb2,mr2,by omega,by go_num,by rw [HTk.out];exact HB2.out,hS⟩,by simp [intOf];omega⟩
       · obtain rfl:j=M:=by omega
         have e:roots.take j=roots:=List.take_of_length_le (by rw [HMm.out];exact Nat.le_refl _)
         rw [e] at hB hlj
         have hz2:(base ++ roots.flatMap Xp).length+(⟨#[10]⟩:ByteArray).size≤1000000:=by rw [yG];show _+1≤_;omega
         have hz3:T.length≤1000000:=by rw [HD.out,yG];exact hz2
         have hT0:T≠[]:=by rw [HD.out];simp
         have hBT:∀ mb2 mr2,Bld X6 (base ++ roots.flatMap Xp ++ lst ⟨#[10]⟩) mb2 mr2→Bld X6 T mb2 mr2:=fun _ _ h=>by rw [HD.out];exact h
         have HBT:=yH hBT
         generalize base ++ roots.flatMap Xp=bj at *
         have HB:=yH hB
         clear hB e hlj HCr HG HL2 hBT
         go_wp2_with (first|(go_at_call 31;(refine yI (Yr W _ _ _ _ X6 _ _ _ hz2 HB.out hS) ?_);clear hS;rintro e' w ⟨rfl,mb2,mr2,hB2,hS⟩;have HB2:=yH hB2;clear hB2)|(go_at_call 33;(refine yI (bstring_any W _ _ _ _ X6 _ _ hT0 hz3 h8 (HBT.out _ _ HB2.out) hS) ?_);clear hS;rintro e' w ⟨str,rfl,hstr,hS⟩;have HStr:=yH hstr;clear hstr))
         go_ret2
         exact ⟨⟨str,0,rfl,HStr.out.trans HT.out.symm,rfl⟩,hS.end_ (PH.le.refl _)⟩
end
section
open Go.RowKit
theorem size_le {s:ByteArray} {l:List Nat} {n:Nat} (h:lst s=l) (hl:l.length≤n):s.size≤n:=by rw [← lst_length,h];exact hl
theorem rtextD_any {W:World} {vl vr:Value} {rows:List G.Rw3} {roots:List Int} (hl:Row3o (Qa W) vl rows) (hr:IntRo (Qa W) vr roots) (h40:rows.length≤4096) (hm:roots.length≤1000) (hf:∀ r ∈ rows,RowFit r) (hg:∀ e ∈ roots,-9223372036854775808≤e∧e<9223372036854775808) :
  Calls Tryz.prog 10 #[vl,vr] W fun e w'=>(∃ str,e=.returned (.string str)∧lst str=textD rows roots)∧Below W.heap.size W w':=by
 obtain ⟨A,c,rfl,hcl⟩:=hl
 obtain ⟨B,d,rfl,hcr⟩:=hr
 have HCl:=yH hcl
 have HCr:=yH hcr
 have HF:=yH hf
 have HG:=yH hg
 have hS:=Sat.start W
 clear hcl hcr hf hg
 generalize hN:rows.length=N at *
 generalize hM:roots.length=M at *
 have HNn:=yH hN
 have HMm:=yH hM
 have hL1:∀ i,i≤N→((rows.take i).flatMap rowT).length≤258048:=fun i hi=>by
  have:=flatN_len rowT 63 (rows.take i) fun x hx=>rowT_len (HF.out x (List.mem_of_mem_take hx))
  rw [List.length_take,Nat.min_eq_left (by omega)] at this
  omega
 have HL1:=yH hL1
 have hL2:∀ j,j≤M→((roots.take j).flatMap Xp).length≤21000:=fun j hj=>by
  have:=flatN_len Xp 21 (roots.take j) fun x hx=>by
   have h:=HG.out x (List.mem_of_mem_take hx)
   have:=txt_len x ⟨h.1,by omega⟩
   unfold Xp
   rw [yB];omega
  rw [List.length_take,Nat.min_eq_left (by omega)] at this
  omega
 have HL2:=yH hL2
 clear hN hM hL1 hL2
 go_enter Tryz.func10,Tryz.ntmps10
 go_wp2_with fail
 go_loopw [5,6] (fun v5 v6 wr=>∃ (i:Nat) (cur:ByteArray),i≤N∧v6=.int .i64 (i:Int)∧v5=.string cur∧lst cur=(rows.take i).flatMap rowT∧Sat W (Qa W) [] wr) (fun _ v6 _=>(N - intOf v6).toNat)
 case atStart=>exact ⟨0,_,Nat.zero_le _,rfl,rfl,rfl,hS⟩
 case round =>
  clear hS
  obtain ⟨i,cur,hi,rfl,rfl,hcur,hS⟩:=hrel
  have hsz:=size_le hcur (HL1.out i hi)
  by_cases hlt:i<N
  · obtain ⟨r,hr⟩:∃ r,rows[i]?=some r:=⟨_,yA (by rw [HNn.out];exact hlt)⟩
    obtain ⟨Y,oY,hA,hcell⟩:=HCl.out (by omega)
    subst hA
    have hcell:=hcell i r hr
    have iN:(i:Int)<(N:Int):=by omega
    obtain ⟨f1,f2,f3⟩:=(HF.out r (List.mem_of_getElem? hr)).i64
    have htk:(rows.take (i+1)).flatMap rowT=(rows.take i).flatMap rowT ++ rowT r:=by rw [List.take_add_one,hr,List.flatMap_append];simp
    clear hr HCl
    obtain ⟨rv,lo,hi'⟩:=r
    simp only at f1 f2 f3
    have x0:(Qa W).at Y (oY+i * 3)=some (.int .i64 rv):=by have:=hcell.at 0 rfl;rwa [Nat.add_zero] at this
    have x1:(Qa W).at Y (oY+i * 3+1)=some (.int .i64 lo):=hcell.at 1 rfl
    have x2:(Qa W).at Y (oY+i * 3+2)=some (.int .i64 hi'):=hcell.at 2 rfl
    have T1:=yH (fun w:World=>rtext_any rv w f1)
    have T2:=yH (fun w:World=>rtext_any lo w f2)
    have T3:=yH (fun w:World=>rtext_any hi' w f3)
    have z1:=Xl rv f1
    have z2:=Xl lo f2
    have z3:=Xl hi' f3
    have y1:=Xq rv
    have y2:=Xq lo
    have y3:=Xq hi'
    generalize Yw rv=s1 at *
    generalize Yw lo=s2 at *
    generalize Yw hi'=s3 at *
    obtain ⟨a1,ha1⟩:∃ a:ByteArray,cur ++ s1=a:=⟨_,rfl⟩
    have n1:¬ 9223372036854775807<cur.size+s1.size:=by omega
    have m1:¬ 9223372036854775807<(cur).size+(s1).size:=n1
    have q1:a1.size=cur.size+s1.size:=by rw [← ha1];exact ByteArray.size_append
    have w1:lst a1=lst cur ++ lst s1:=by rw [← ha1];exact Kr _ _
    obtain ⟨a2,ha2⟩:∃ a:ByteArray,a1 ++ (⟨#[32]⟩:ByteArray)=a:=⟨_,rfl⟩
    have n2:¬ 9223372036854775807<a1.size+1:=by omega
    have m2:¬ 9223372036854775807<(a1).size+((⟨#[32]⟩:ByteArray)).size:=n2
    have q2:a2.size=a1.size+1:=by rw [← ha2];exact ByteArray.size_append
    have w2:lst a2=lst a1 ++ lst (⟨#[32]⟩:ByteArray):=by rw [← ha2];exact Kr _ _
    obtain ⟨a3,ha3⟩:∃ a:ByteArray,a2 ++ s2=a:=⟨_,rfl⟩
    have n3:¬ 9223372036854775807<a2.size+s2.size:=by omega
    have m3:¬ 9223372036854775807<(a2).size+(s2).size:=n3
    have q3:a3.size=a2.size+s2.size:=by rw [← ha3];exact ByteArray.size_append
    have w3:lst a3=lst a2 ++ lst s2:=by rw [← ha3];exact Kr _ _
    obtain ⟨a4,ha4⟩:∃ a:ByteArray,a3 ++ (⟨#[32]⟩:ByteArray)=a:=⟨_,rfl⟩
    have n4:¬ 9223372036854775807<a3.size+1:=by omega
    have m4:¬ 9223372036854775807<(a3).size+((⟨#[32]⟩:ByteArray)).size:=n4
    have q4:a4.size=a3.size+1:=by rw [← ha4];exact ByteArray.size_append
    have w4:lst a4=lst a3 ++ lst (⟨#[32]⟩:ByteArray):=by rw [← ha4];exact Kr _ _
    obtain ⟨a5,ha5⟩:∃ a:ByteArray,a4 ++ s3=a:=⟨_,rfl⟩
    have n5:¬ 9223372036854775807<a4.size+s3.size:=by omega
    have m5:¬ 9223372036854775807<(a4).size+(s3).size:=n5
    have q5:a5.size=a4.size+s3.size:=by rw [← ha5];exact ByteArray.size_append
    have w5:lst a5=lst a4 ++ lst s3:=by rw [← ha5];exact Kr _ _
    obtain ⟨a6,ha6⟩:∃ a:ByteArray,a5 ++ (⟨#[10]⟩:ByteArray)=a:=⟨_,rfl⟩
    have n6:¬ 9223372036854775807<a5.size+1:=by omega
    have m6:¬ 9223372036854775807<(a5).size+((⟨#[10]⟩:ByteArray)).size:=n6
    have q6:a6.size=a5.size+1:=by rw [← ha6];exact ByteArray.size_append
    have w6:lst a6=lst a5 ++ lst (⟨#[10]⟩:ByteArray):=by rw [← ha6];exact Kr _ _
    have hrow:lst a6=lst cur ++ rowT ⟨rv,lo,hi'⟩:=by
     rw [w6,w5,w4,w3,w2,w1,y1,y2,y3]
     simp only [rowT,List.append_assoc]
     rfl
    have HTk:=yH (htk.trans (by rw [← hcur,← hrow]))
    clear htk hrow w1 w2 w3 w4 w5 w6 y1 y2 y3 q1 q2 q3 q4 q5 q6 z1 z2 z3 f1 f2 f3 hcur hcell
    go_wp2_with fail
    refine Zc (fun _ _=>False) [[],[],[],[1,2],[1,2,3],[1,2,3,4],[1,2,3,4,5],[0,1,2,3,4,5,6],[0,1,2,3,4,5,6,7],[],[],[9,10],[9,10,11],[9,10,11,12],[1,2,3,4,5,6,9,10,11,12,13],[0,1,2,3,4,5,6,7,8,9,10,11,12,13,14],[0,1,2,3,4,5,6,7,8,9,10,11,12,13,14,15],[],[],[17,18],[17,18,19],[17,18,19,20],[1,2,3,4,5,6,9,10,11,12,13,14,17,18,19,20,21],[0,1,2,3,4,5,6,7,8,9,10,11,12,13,14,15,16,17,18,19,20,21,22],[0,1,2,3,4,5,6,7,8,9,10,11,12,13,14,15,16,17,18,19,20,21,22,23],[0,1,2,3,4,5,6,7,8,9,10,11,12,13,14,15,16,17,18,19,20,21,22,23,24]] W (Qa W) _
     [fun v _=>v=.string cur,fun v _=>v=.slice (some ⟨Y,oY,none⟩) N c,fun v _=>v=.int .i64 (i:Int),fun v _=>v=.pointer (some ⟨Y,oY+i * 3,none⟩),fun v _=>v=.pointer (some ⟨Y,oY+i * 3,none⟩),fun v _=>v=.int .i64 rv,fun v _=>v=.string s1,fun v _=>v=.string a1,fun v _=>v=.string a2,fun v _=>v=.slice (some ⟨Y,oY,none⟩) N c,fun v _=>v=.int .i64 (i:Int),fun v _=>v=.pointer (some ⟨Y,oY+i * 3,none⟩),fun v _=>v=.pointer (some ⟨Y,oY+i * 3+1,none⟩),fun v _=>v=.int .i64 lo,fun v _=>v=.string s2,fun v _=>v=.string a3,fun v _=>v=.string a4,fun v _=>v=.slice (some ⟨Y,oY,none⟩) N c,fun v _=>v=.int .i64 (i:Int),fun v _=>v=.pointer (some ⟨Y,oY+i * 3,none⟩),fun v _=>v=.pointer (some ⟨Y,oY+i * 3+2,none⟩),fun v _=>v=.int .i64 hi',fun v _=>v=.string s3,fun v _=>v=.string a5,fun v _=>v=.string a6,fun v _=>v=.string a6] []
     (fun _ _ _ ns=>ns=[]) (by kernel_rfl) (by kernel_rfl) (by decide) hS rfl ?last (fun _ _ _ _ _ _ h=>h) (fun _ _ _ _ _ _ h=>h) ?plain ?step ?hZ ?fin
    case last=>repeat (first|exact Lasting.nil|refine Lasting.cons (fun _ _ _ _ h=>h) ?_)
    case hZ=>exact fun _ _ _ _ h=>h.elim
    case step=>trivial
    case plain=>clear hS;(repeat' (first|exact trivial|apply And.intro)) <;>  (refine .inr ?_;intro s vals J bs w hstop hg hJ hS hG;clear hG;simp only [zH,zI,Given,Facts] at hg;simp only [Qd,Qh,Qe,Qj,zH,zI,zA,zB,zK,if_true,Act.put,zE,zF,zG,hg];refine ⟨?_⟩;refine Qm (fun K hK=>?_);have HK:=yH hK;clear hK;rw [if_pos (by rfl)];(first|((with_reducible refine Qs ?_);  ((refine' Qq (v:=_) hS hJ ?ha rfl ?hc ?_);(case ha=>first|exact Qf);(case hc=>assumption)) )|(go_wp2_with (first|(go_at_call 34;first|((with_reducible refine yI (T1.out _) ?_);rintro e w2 ⟨rfl,hb2⟩;replace hS:=hS.below_ hb2;clear hb2)|((with_reducible refine yI (T2.out _) ?_);rintro e w2 ⟨rfl,hb2⟩;replace hS:=hS.below_ hb2;clear hb2)|((with_reducible refine yI (T3.out _) ?_);rintro e w2 ⟨rfl,hb2⟩;replace hS:=hS.below_ hb2;clear hb2)))));refine HK.out _ _ ⟨rfl,J,PH.le.refl _,hS,?_⟩;clear HK;simp only [Facts];simp only [Qo,zH,zI,Act.put,zE,zF,zG,zD,zC,zA,zB,zJ])
    case fin =>
     intro vals J9 bs w hJ hg hS hG
     have hG:bs=[]:=hG
     subst hG
     have hS:=hS.less hJ
     clear hJ
     simp only [yB,yC,Nat.reduceAdd,Below_,Facts,zH,zI,true_and] at hg;simp only [yB,yC,Nat.reduceAdd,Qd,Qh,Qe,zA,zB,zK,if_true,Act.put,zE,zF,zG,hg];refine ⟨?_⟩
     clear hg
     go_wp2_with fail
     exact ⟨⟨i+1,a6,by omega,by go_num,rfl,HTk.out.symm,hS⟩,by simp [intOf];omega⟩
  · obtain rfl:i=N:=by omega
    have e:rows.take i=rows:=List.take_of_length_le (by rw [HNn.out];exact Nat.le_refl _)
    rw [e] at hcur
    obtain ⟨b1,hb1⟩:∃ a:ByteArray,cur ++ (⟨#[114,111,111,116,115]⟩:ByteArray)=a:=⟨_,rfl⟩
    have n0:¬ 9223372036854775807<cur.size+5:=by omega
    have m0:¬ 9223372036854775807<cur.size+((⟨#[114,111,111,116,115]⟩:ByteArray)).size:=n0
    have q0:b1.size=cur.size+5:=by rw [← hb1];exact ByteArray.size_append
    have w0:lst b1=rows.flatMap rowT ++ [114,111,111,116,115]:=by rw [← hb1,Kr,hcur];rfl
    have HW0:=yH w0
    clear w0 hcur e HCl HF HL1
    go_wp2_with fail
    go_loopw [5,7] (fun v5 v7 wr=>∃ (j:Nat) (cj:ByteArray),j≤M∧v7=.int .i64 (j:Int)∧v5=.string cj∧lst cj=lst b1 ++ (roots.take j).flatMap Xp∧Sat W (Qa W) [] wr) (fun _ v7 _=>(M - intOf v7).toNat)
    case atStart=>exact ⟨0,b1,Nat.zero_le _,rfl,rfl,by simp,hS⟩
    case round =>
     clear hS hb1 n0 m0
     obtain ⟨j,cj,hj,rfl,rfl,hcj,hS⟩:=hrel
     have hszj:cj.size≤300000:=by
      have:=HL2.out j hj
      rw [← lst_length,hcj,yG,lst_length];omega
     by_cases hlt2:j<M
     · obtain ⟨e,he⟩:∃ e,roots[j]?=some e:=⟨_,yA (by rw [HMm.out];exact hlt2)⟩
       obtain ⟨Z,oZ,hZ,hcell⟩:=HCr.out (by omega)
       subst hZ
       have hcell:=hcell j e he
       have jM:(j:Int)<(M:Int):=by omega
       have he2:I64 e:=by
        have h:=HG.out e (List.mem_of_getElem? he)
        exact ⟨h.1,by omega⟩
       have htk:(roots.take (j+1)).flatMap Xp=(roots.take j).flatMap Xp ++ Xp e:=by rw [List.take_add_one,he,List.flatMap_append];simp
       have T1:=yH (fun w:World=>rtext_any e w he2)
       have z1:=Xl e he2
       have y1:=Xq e
       generalize Yw e=s1 at *
       obtain ⟨a1,ha1⟩:∃ a:ByteArray,cj ++ (⟨#[32]⟩:ByteArray)=a:=⟨_,rfl⟩
       have n1:¬ 9223372036854775807<cj.size+1:=by omega
       have m1:¬ 9223372036854775807<(cj).size+((⟨#[32]⟩:ByteArray)).size:=n1
       have q1:a1.size=cj.size+1:=by rw [← ha1];exact ByteArray.size_append
       have w1:lst a1=lst cj ++ lst (⟨#[32]⟩:ByteArray):=by rw [← ha1];exact Kr _ _
       obtain ⟨a2,ha2⟩:∃ a:ByteArray,a1 ++ s1=a:=⟨_,rfl⟩
       have n2:¬ 9223372036854775807<a1.size+s1.size:=by omega
       have m2:¬ 9223372036854775807<(a1).size+(s1).size:=n2
       have q2:a2.size=a1.size+s1.size:=by rw [← ha2];exact ByteArray.size_append
       have w2:lst a2=lst a1 ++ lst s1:=by rw [← ha2];exact Kr _ _
       have HTk:=yH (show lst a2=lst b1 ++ (roots.take (j+1)).flatMap Xp by rw [htk,← List.append_assoc,← hcj,w2,w1,y1];simp only [Xp,List.append_assoc];rfl)
       clear he htk w1 w2 y1 q1 q2 z1 he2 hcj HCr
       go_wp2_with (first|(go_at_call 34;(with_reducible refine yI (T1.out _) ?_);rintro e' w2 ⟨rfl,hb2⟩;replace hS:=hS.below_ hb2;clear hb2)|((with_reducible refine Qc ?_);first|((with_reducible refine Qb ?_);( ((refine' Ka (v:=_) hS rfl rfl ?ha rfl ?hb ?_);(case ha=>exact Qf);(case hb=>assumption)));(try simp only [Act.put,zE,zF,zG]))))
       exact ⟨⟨j+1,a2,by omega,by go_num,rfl,HTk.out,hS⟩,by simp [intOf];omega⟩
     · obtain rfl:j=M:=by omega
       have e:roots.take j=roots:=List.take_of_length_le (by rw [HMm.out];exact Nat.le_refl _)
       rw [e,HW0.out] at hcj
       obtain ⟨b2,hb2⟩:∃ a:ByteArray,cj ++ (⟨#[10]⟩:ByteArray)=a:=⟨_,rfl⟩
       have n0:¬ 9223372036854775807<cj.size+1:=by omega
       have m0:¬ 9223372036854775807<cj.size+((⟨#[10]⟩:ByteArray)).size:=n0
       have w0:lst b2=textD rows roots:=by rw [← hb2,Kr,hcj];rfl
       have HW1:=yH w0
       clear w0 hcj e HCr HG HL2
       go_wp2_with fail
       go_ret
       exact ⟨⟨b2,by rw [← hb2];rfl,HW1.out⟩,hS.end_ (PH.le.refl _)⟩
end
end Go.Proofs.YtidamcdklgfogaaGreat
