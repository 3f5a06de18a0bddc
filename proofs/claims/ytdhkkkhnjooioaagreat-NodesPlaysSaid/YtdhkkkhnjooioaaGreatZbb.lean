import Derived.Test.YtdhkkkhnjooioaaGreatZaf
import Derived.Test.YtdhkkkhnjooioaaGreatZaj
import Derived.Test.YtdhkkkhnjooioaaGreatZba
import Derived.Test.YtdhkkkhnjooioaaGreatZag
set_option linter.unusedSimpArgs false
set_option linter.unusedVariables false
namespace Go.Proofs.YtdhkkkhnjooioaaGreat
open Go.RowKit
def iv (j:Nat):Value:=.int .i64 (j:Int)
def idC (i n:Nat):Array Value:=((List.range i).map iv ++ List.replicate (n - i) (Value.int .i64 0)).toArray
theorem idC_size {i n:Nat} (h:i≤n):(idC i n).size=n:=by simp [idC];omega
theorem idC_set {i n:Nat} (h:i<n):(idC i n).setIfInBounds i (.int .i64 (i:Int))=idC (i+1) n:=by
 apply Array.ext'
 rw [Array.toList_setIfInBounds]
 unfold idC
 simp only
 rw [List.set_append_right _ _ (by simp),List.length_map,List.length_range,Nat.sub_self,show n - i=(n - (i+1))+1 by omega,List.replicate_succ,zG,List.range_succ,List.map_append]
 simp [iv]
theorem made_int (n:Nat):madeCells (Value.cells (.int .i64 0)) (n * 1)=idC 0 n:=by
 unfold madeCells idC Value.cells
 apply Array.ext
 · simp
 · intro i h1 h2
   simp [Nat.mod_one]
set_option maxHeartbeats 1000000 in
set_option maxRecDepth 100000 in
theorem ident_any (E:World) (I:PH) (ms:List PH) (n:Nat) (w:World) (hn:n≤64) (hS:Sat E I ms w) :
 Calls Tryz.prog 20 #[.int .i64 (n:Int)] w fun e w'=>∃ X,e=.returned (.slice (some ⟨X,0,none⟩) n n)∧Sat E I (PH.one X (.cells (idC n n) 3)::ms) w':=by
 have hmin:min (max (n:Int) 0) 64=(n:Int):=by omega
 have hmax:max (n:Int) 0=(n:Int):=by omega
 have hmin2:min (n:Int) 64=(n:Int):=by omega
 go_enter Tryz.func20,Tryz.ntmps20
 go_wp2_with ( ((with_reducible refine isMake ?_);refine mks hS rfl rfl Tryz.underlying28 int_info rfl rfl rfl rfl (Nat.le_refl _) (by omega) (by omega) ?_;clear hS;intro X w hS;(try simp only [Act.put,zE,zF,zG])) )
 rw [made_int] at hS
 clear hmin hmin2 hmax
 go_loopw [11] (fun v11 wr=>∃ i:Nat,i≤n∧v11=.int .i64 (i:Int)∧Sat E I (PH.one X (.cells (idC i n) 3)::ms) wr) (fun v11 _=>(n - intOf v11).toNat)
 case atStart=>exact ⟨0,by omega,rfl,hS⟩
 case round =>
  clear hS
  obtain ⟨i,hi,rfl,hS⟩:=hrel
  by_cases hlt:i<n
  · have hsz:=idC_size hi
    have hst:=idC_set hlt
    have i1:(i:Int)<n:=by omega
    have HST:=Lib.hid hst
    have HSZ:=Lib.hid hsz
    clear hst hsz
    go_wp2_with ( ((with_reducible refine isStore ?_);refine st1 0 hS rfl rfl rfl rfl rfl ty_sz3 rfl rfl (by rw [HSZ.out];exact hlt) ?_;clear hS;intro w hS;(try simp only [zG,Act.eval,zD,zC,zA,zB,zJ] at hS);(try simp only [Act.put])) )
    rw [HST.out] at hS
    go_roundw
    case rel=>exact ⟨i+1,by omega,by go_num,hS⟩
    case measure=>simp [intOf];omega
  · have hin:i=n:=by omega
    subst hin
    go_wp2
    go_ret
    exact ⟨X,rfl,hS⟩
end Go.Proofs.YtdhkkkhnjooioaaGreat
namespace Go.Proofs.YtdhkkkhnjooioaaGreat
open Go.RowKit
theorem tabp_info:(Tryz.prog.info? 65).map (fun i=>(i.zero,i.size,i.bytes))=some (some (.pointer none),1,8):=by kernel_rfl
def tabs (l:List (Nat × Nat)):List PH:=l.flatMap fun t=>[tbv t.1 t.2,tbm t.2 [] 0]
def tabVs (l:List (Nat × Nat)):List Value:=l.map fun t=>vPt t.1
def stV (L P:Nat) (v:Value):Array Value := #[vPt L,vPt P,v,.slice none 0 0,.int .i64 0]
def mkG (S L P:Nat) (v:Value) (m:PH) (l:List (Nat × Nat)) (rest:List PH) (s:Nat) (vals:Nat→Value) (_:PH) (ns:List PH):Prop :=
 match s with
 | 0=>ns=PH.one S (.cells (stV L P v) 64)::m::rest
 | 1=>∃ g M,vals 5=vPt g∧ns=tbv g M::tbm M [] 0::PH.one S (.cells (stV L P v) 64)::m::rest
 | 2=>∃ g M Y,vals 6=vSl 1 Y∧ns=PH.one Y (.cells #[vPt g] 65)::tbv g M::tbm M [] 0::PH.one S (.cells (stV L P v) 64)::m::rest
 | 3=>∃ g M Y m',OwnP m' 65 1 (vals 7) (l.length+1) (tabVs (l ++ [(g,M)]))∧ns=PH.one Y (.cells #[vPt g] 65)::tbv g M::tbm M [] 0::PH.one S (.cells (stV L P v) 64)::m'::rest
 | _=>∃ g M Y m',OwnP m' 65 1 (vals 7) (l.length+1) (tabVs (l ++ [(g,M)]))∧ns=PH.one Y (.cells #[vPt g] 65)::tbv g M::tbm M [] 0::PH.one S (.cells (stV L P (vals 7)) 64)::m'::rest
theorem mkG.gst {S L P:Nat} {v:Value} {m:PH} {l:List (Nat × Nat)} {rest:List PH} (s:Nat) (vals vals':Nat→Value) (J:PH) (ns:List PH) (h:∀ j ∈ [5,6,7,10].take s,vals j=vals' j) (hg:mkG S L P v m l rest s vals J ns):mkG S L P v m l rest s vals' J ns:=by
 match s,h,hg with
 | 0,h,hg=>exact hg
 | 1,h,hg=>obtain ⟨g,M,h1,h2⟩:=hg;exact ⟨g,M,by rw [← h 5 (by decide)];exact h1,h2⟩
 | 2,h,hg=>obtain ⟨g,M,Y,h1,h2⟩:=hg;exact ⟨g,M,Y,by rw [← h 6 (by decide)];exact h1,h2⟩
 | 3,h,hg=>obtain ⟨g,M,Y,m',h1,h2⟩:=hg;exact ⟨g,M,Y,m',by rw [← h 7 (by decide)];exact h1,h2⟩
 | s+4,h,hg=>obtain ⟨g,M,Y,m',h1,h2⟩:=hg;exact ⟨g,M,Y,m',by rw [← h 7 (by simp)];exact h1,by rw [← h 7 (by simp)];exact h2⟩
theorem mkG.mem {S L P:Nat} {v:Value} {m:PH} {l:List (Nat × Nat)} {rest:List PH} {s:Nat} {vals:Nat→Value} {J:PH} {ns:List PH} (hs:s≤2) (h:mkG S L P v m l rest s vals J ns):PH.one S (.cells (stV L P v) 64) ∈ ns:=by
 match s,hs,h with
 | 0,_,h=>rw [show ns=_ from h];simp
 | 1,_,h=>obtain ⟨g,M,_,h⟩:=h;rw [h];simp
 | 2,_,h=>obtain ⟨g,M,Y,_,h⟩:=h;rw [h];simp
theorem perm_tab (a b S m:PH) (X:List PH):(a::b::S::m::X).Perm (S::m::a::b::X) :=
 (List.perm_append_comm (l₁:=[a,b]) (l₂:=[S,m])).append_right X
theorem nnew_bad (vars room:Int) (w:World) (h:vars<0∨64<vars∨room<1∨1048576<room):Calls Tryz.prog 5 #[.int .i64 vars,.int .i64 room] w fun e w'=>e=.returned (.tuple #[.pointer none,.int .i64 2])∧w=w':=by
 have h:decide (vars<0)=true∨(decide (vars<0)=false∧decide (64<vars)=true)∨(decide (vars<0)=false∧decide (64<vars)=false∧(room<1∨1048576<room)):=by simp only [decide_eq_true_eq,decide_eq_false_iff_not];omega
 rcases h with h|⟨h,h2⟩|⟨h,h2,h3⟩
 · go_enter Tryz.func5,Tryz.ntmps5
   go_wp2
   go_ret2
   exact ⟨rfl,rfl⟩
 · go_enter Tryz.func5,Tryz.ntmps5
   go_wp2
   go_ret2
   exact ⟨rfl,rfl⟩
 · go_enter Tryz.func5,Tryz.ntmps5
   go_wp2_with (go_at_call 19;(with_reducible refine Calls.mono (pnew_bad _ _ h3) ?_);rintro e w' ⟨rfl,rfl⟩)
   go_ret2
   exact ⟨rfl,rfl⟩
def stP (S L P V1 V2 A T:Nat) (n:Nat) (room:Int) (v:Value) (m:PH) (l:List (Nat × Nat)):List PH :=
 PH.one S (.cells (stV L P v) 64)::m::tabs l ++ [PH.one L (.cells #[vSl n V1,vSl n V2] 61),PH.one V2 (.cells (idC n n) 3),PH.one V1 (.cells (idC n n) 3),PH.one P (.cells #[.int .i64 room,vSl 1 A,vSl 1 T,.slice none 0 0,.int .i64 0] 114),PH.one A (.cells node0 96),PH.one T (.cells #[.bool false] 4)]
set_option maxHeartbeats 4000000 in
set_option maxRecDepth 100000 in
theorem nnew_ok (E:World) (I:PH) (ms:List PH) (n:Nat) (room:Int) (w:World) (hn:n≤64) (h1:1≤room) (h2:room≤1048576) (hS:Sat E I ms w) :
 Calls Tryz.prog 5 #[.int .i64 (n:Int),.int .i64 room] w fun e w'=>∃ S L P V1 V2 A T v m l,e=.returned (.tuple #[vPt S,.int .i64 0])∧l.length=n∧OwnP m 65 1 v n (tabVs l) ∧
  Sat E I (stP S L P V1 V2 A T n room v m l ++ ms) w':=by
 have hn0:(0:Int)≤(n:Int):=by omega
 have hn1:(n:Int)≤64:=by omega
 go_enter Tryz.func5,Tryz.ntmps5
 go_wp2_with (first|(go_at_call 19;(with_reducible refine Calls.mono (pnew_ok _ _ _ _ _ h1 h2 hS) ?_);clear hS;rintro e w ⟨P,A,T,rfl,hS⟩))
 refine (ident_any _ _ _ _ _ hn hS).mono ?_
 clear hS
 rintro e w ⟨V1,rfl,hS⟩
 go_wp2_with fail
 refine (ident_any _ _ _ _ _ hn hS).mono ?_
 clear hS
 rintro e w ⟨V2,rfl,hS⟩
 go_wp2_with (first|((with_reducible refine atList ?_);first|((with_reducible refine isBoxD 26 ?_);refine bx hS rfl rfl rfl ?_;clear hS;intro L w hS;(try simp only [Act.eval,zD,zC,zA,zB,zJ,Value.cells] at hS);(try simp only [Act.put,zE,zF,zG]))|((with_reducible refine isBoxD 29 ?_);refine bx hS rfl rfl rfl ?_;clear hS;intro S w hS;(try simp only [Act.eval,zD,zC,zA,zB,zJ,Value.cells] at hS);(try simp only [Act.put,zE,zF,zG])) ))
 have hS0:Sat E I (stP S L P V1 V2 A T n room (.slice none 0 0) (fun _=>none) [] ++ ms) w:=hS.empty.perm (List.Perm.swap _ _ _)
 clear hS
 go_loopw [31] (fun v31 wr=>∃ v m l,l.length≤n∧v31=.int .i64 ((l.length:Nat):Int)∧OwnP m 65 1 v l.length (tabVs l)∧Sat E I (stP S L P V1 V2 A T n room v m l ++ ms) wr) (fun v31 _=>(n - intOf v31).toNat)
 case atStart=>exact ⟨_,_,[],by simp,rfl,OwnP.nil _ _,hS0⟩
 case round =>
  clear hS0
  obtain ⟨v,m,l,hl,rfl,hO,hS⟩:=hrel
  by_cases hlt:l.length<n
  · have i1:(l.length:Int)<n:=by omega
    go_wp2_with fail
    have hS1:Sat E I (PH.one S (.cells (stV L P v) 64)::m::(tabs l ++ [PH.one L (.cells #[vSl n V1,vSl n V2] 61),PH.one V2 (.cells (idC n n) 3),PH.one V1 (.cells (idC n n) 3),PH.one P (.cells #[.int .i64 room,vSl 1 A,vSl 1 T,.slice none 0 0,.int .i64 0] 114),PH.one A (.cells node0 96),PH.one T (.cells #[.bool false] 4)] ++ ms)) wr:=by
     unfold stP at hS
     simpa only [List.cons_append,List.append_assoc] using hS
    clear hS
    generalize hrest:tabs l ++ _ ++ ms=rest at hS1
    refine region_c1 [[],[],[1],[1,2],[1,2,3],[],[5],[1,2,3,4,5,6],[0,1,2,3,4,5,6,7],[0,1,2,3,4,5,6,7,8],[0,1,2,3,4,5,6,7,8,9]] E I _
     [fun v _=>v=vPt S,fun v _=>v=vPt S,fun v _=>v=vPt S,fun v _=>v=.pointer (some ⟨S,2,none⟩),fun x _=>x=v,fun _ _=>True,fun _ _=>True,fun _ _=>True,fun v _=>v=vPt S,fun v _=>v=.pointer (some ⟨S,2,none⟩),fun _ _=>True] [5,6,7,10] (mkG S L P v m l rest) (by kernel_rfl) (by kernel_rfl) (by decide) hS1 rfl ?last mkG.gst (fun s vals J J' ns _ h=>h) ?plain ?step ?fin
    case last=>repeat (first|exact Lasting.nil|refine Lasting.cons (fun _ _ _ _ h=>h) ?_)
    case plain =>
     repeat' (first|exact trivial|apply And.intro)
     all_goals first|exact .inl rfl|skip
     all_goals
      refine .inr ?_
      intro s vals J bs w hstop hg hJ hS hG
      first
      | (refine Veil.out ?_
         have hmem:=hG.mem (Nat.le_trans hstop (by decide))
         refine ⟨?_⟩
         simp only [zH,zI,Given,Facts] at hg;simp only [textL,actL,dstAt,opAt,zH,zI,zA,zB,zK,if_true,Act.put,zE,zF,zG,hg];refine ⟨?_⟩;refine wpStep_of (fun K hK=>?_);have HK:=Lib.hid hK;clear hK;rw [if_pos (by rfl)]
         refine wp_ldo1 hS hmem ty_agg62 rfl rfl ?_
         refine HK.out _ _ ⟨rfl,J,PH.le.refl _,hS,?_⟩
         clear HK
         simp only [Facts]
         simp only [outOf,zH,zI,Act.put,zE,zF,zG,zD,zC,zA,zB,zJ])
      | (simp only [zH,zI,Given,Facts] at hg;simp only [textL,actL,dstAt,opAt,zH,zI,zA,zB,zK,if_true,Act.put,zE,zF,zG,hg];refine ⟨?_⟩;refine wpStep_of (fun K hK=>?_);have HK:=Lib.hid hK;clear hK;rw [if_pos (by rfl)];go_wp2_with fail;refine HK.out _ _ ⟨rfl,J,PH.le.refl _,hS,?_⟩;clear HK;simp only [Facts];simp only [outOf,zH,zI,zD,zC,zA,zB,zJ])
    case step =>
     refine ⟨⟨⟨⟨trivial,?_⟩,?_⟩,?_⟩,?_⟩
     · intro vals J bs w hg hJ hS hG
       have hG:bs=_:=hG
       subst hG
       simp only [zH,zI,Given,Facts] at hg;simp only [textL,actL,dstAt,opAt,zH,zI,zA,zB,zK,if_true,Act.put,zE,zF,zG];refine ⟨?_⟩;refine wpStep_of (fun K hK=>?_);have HK:=Lib.hid hK;clear hK;rw [if_pos (by rfl)]
       go_wp2_with (go_at_call 21;(with_reducible refine Calls.mono (new_any _ _ _ _ hS) ?_);clear hS;rintro e w ⟨g,M,rfl,hS⟩)
       refine HK.out _ _ ⟨rfl,J,_,PH.le.refl _,hS,trivial,g,M,?_,rfl⟩
       simp only [upd_self]
       simp only [outOf,zD,zC,zA,zB,zJ]
     · intro vals J bs w hg hJ hS hG
       refine Veil.out ?_
       obtain ⟨g,M,h5,hns⟩:=hG
       subst hns
       refine ⟨?_⟩
       simp only [textL,actL,dstAt,opAt,zH,zI,zA,zB,zK,if_true,Act.put,zE,zF,zG,h5];refine ⟨?_⟩;refine wpStep_of (fun K hK=>?_);have HK:=Lib.hid hK;clear hK;rw [if_pos (by rfl)]
       refine wp_bsl hS (fun w0=>by go_simp;rfl) fun Y w hS=>?_
       refine HK.out _ _ ⟨rfl,J,_,PH.le.refl _,hS,trivial,g,M,Y,?_,?_⟩
       · simp only [upd_self]
         simp only [outOf,Act.put,zE,zF,zG,zD,zC,zA,zB,zJ]
       · simp only []
     · intro vals J bs w hg hJ hS hG
       refine Veil.out ?_
       obtain ⟨g,M,Y,h6,hns⟩:=hG
       have h4:vals 4=v:=hg.get 4 (by decide)
       subst hns
       refine ⟨?_⟩
       simp only [textL,actL,dstAt,opAt,zH,zI,zA,zB,zK,if_true,Act.put,zE,zF,zG,h4,h6];refine ⟨?_⟩;refine wpStep_of (fun K hK=>?_);have HK:=Lib.hid hK;clear hK;rw [if_pos (by rfl)]
       refine wp_apP (p:=PH.one Y (.cells #[vPt g] 65)) (m:=m) (v:=v) (n:=l.length) (xs:=tabVs l) (news:=[vPt g]) hS 4 rfl (.inr (List.Mem.head _)) rfl Tryz.underlying62 tabp_info rfl (by decide) rfl hO rfl rfl (Cells.one _ _ _ _) rfl (by unfold maxLen;omega) (by omega) fun v' m' w hO' hS=>?_
       refine HK.out _ _ ⟨rfl,J,_,PH.le.refl _,hS,trivial,g,M,Y,m',?_,?_⟩
       · simp only [upd_self]
         simp only [outOf,Act.put,zE,zF,zG,zD,zC,zA,zB,zJ]
         unfold tabVs
         rw [List.map_append]
         exact hO'
       · simp only [zF,zG]
     · intro vals J bs w hg hJ hS hG
       refine Veil.out ?_
       obtain ⟨g,M,Y,m',hO',hns⟩:=hG
       obtain ⟨A1,c1,h7,_⟩:=hO'.shape
       have h9:vals 9=.pointer (some ⟨S,2,none⟩):=hg.get 9 (by decide)
       subst hns
       refine ⟨?_⟩
       simp only [textL,actL,dstAt,opAt,zH,zI,zA,zB,zK,if_true,Act.put,zE,zF,zG,h9,h7];refine ⟨?_⟩;refine wpStep_of (fun K hK=>?_);have HK:=Lib.hid hK;clear hK;rw [if_pos (by rfl)]
       refine wp_st1 hS 3 rfl rfl rfl rfl ty_sz62 rfl rfl (by simp [stV]) fun w hS=>?_
       refine HK.out _ _ ⟨rfl,J,_,PH.le.refl _,hS,trivial,g,M,Y,m',?_,?_⟩
       · exact hO'
       · rw [upd_ne _ _ (by decide),h7]
         rfl
    case fin =>
     intro vals J bs w hJ hg hS hG
     obtain ⟨g,M,Y,m',hO',hns⟩:=hG
     subst hns
     have hS:=hS.less hJ
     simp only [List.length_cons,List.length_nil,Nat.reduceAdd,Below_,Facts,zH,zI,true_and,and_true] at hg;simp only [List.length_cons,List.length_nil,Nat.reduceAdd,textL,actL,dstAt,zA,zB,zK,if_true,Act.put,zE,zF,zG,hg];refine ⟨?_⟩
     clear hg
     go_wp2
     refine ⟨⟨vals 7,m',l ++ [(g,M)],by simp;omega,by simp,by simpa using hO',?_⟩,by simp [intOf];omega⟩
     have h1:=hS.drop.perm (perm_tab _ _ _ _ _)
     subst hrest
     refine h1.perm ?_
     unfold stP
     have ht:tabs (l ++ [(g,M)])=tabs l ++ [tbv g M,tbm M [] 0]:=by simp [tabs]
     rw [ht]
     simp only [List.cons_append,List.append_assoc]
     refine .cons _ (.cons _ ?_)
     exact ((List.perm_append_comm (l₁:=[tbv g M,tbm M [] 0]) (l₂:=tabs l)).append_right _).trans (.of_eq (by simp))
  · have hln:l.length=n:=by omega
    have hlt2:decide ((l.length:Int)<n)=false:=by rw [decide_eq_false_iff_not];omega
    go_wp2
    go_ret2
    exact ⟨S,L,P,V1,V2,A,T,v,m,l,rfl,hln,by rw [← hln];exact hO,hS⟩
end Go.Proofs.YtdhkkkhnjooioaaGreat
namespace Go.Proofs.YtdhkkkhnjooioaaGreat
open Go.RowKit
theorem packTabs {E w:World} {I:PH}:∀ (l:List (Nat × Nat)) (ms:List PH),Sat E I (tabs l ++ ms) w→∃ tms:List PH,tms.length=l.length∧Sat E I (tms ++ ms) w∧∀ (v:Nat) g tm,(l.map (·.1))[v]?=some g→tms[v]?=some tm→TabAt g [] tm
 | [],ms,h=>⟨[],rfl,h,fun v g tm h=>by simp at h⟩
 | (g,M)::l,ms,h=>by
   have h1:Sat E I ([tbv g M,tbm M [] 0] ++ (tabs l ++ ms)) w:=by
    have:tabs ((g,M)::l) ++ ms=[tbv g M,tbm M [] 0] ++ (tabs l ++ ms):=by simp [tabs]
    rw [← this];exact h
   obtain ⟨m,hb,h2⟩:=Sat.pack [tbv g M,tbm M [] 0] h1
   have h3:=h2.perm (List.perm_middle (l₁:=tabs l) (l₂:=ms) (a:=m)).symm
   obtain ⟨tms,t1,t2,t3⟩:=packTabs l (m::ms) h3
   have h4:=t2.perm (List.perm_middle (l₁:=tms) (l₂:=ms) (a:=m))
   refine ⟨m::tms,by simp [t1],h4,fun v g' tm hg ht=>?_⟩
   cases v with
   | zero =>
     simp at hg ht
     subst hg ht
     exact ⟨M,[],0,hb,MapOk.nil,rfl⟩
   | succ v=>exact t3 v g' tm (by simpa using hg) (by simpa using ht)
theorem idC_list (n:Nat):(idC n n).toList=(List.range n).flatMap ivC:=by
 unfold idC
 simp only [Nat.sub_self,List.replicate_zero,List.append_nil]
 rw [List.flatMap_def]
 unfold ivC
 induction List.range n with
 | nil=>rfl
 | cons a l ih=>simp [iv,nv] at ih ⊢;exact ih
theorem tabVs_flat (l:List (Nat × Nat)):tabVs l=(l.map (·.1)).flatMap ptC:=by
 unfold tabVs ptC
 induction l with
 | nil=>rfl
 | cons a l ih=>simp [ih]
theorem snew_ok {E w:World} {I:PH} {ms:List PH} (n room:Nat) (hn:n≤64) (h1:1≤room) (h2:room≤1048576) (hS:Sat E I ms w) :
 Calls Tryz.prog 5 #[nv n,nv room] w fun e w'=>∃ S m,e=.returned (.tuple #[vPt S,.int .i64 0])∧StAt S (G.St.new n room) m∧Sat E I (m::ms) w':=by
 refine (nnew_ok E I ms n (room:Int) w hn (by omega) (by omega) hS).mono ?_
 rintro e w' ⟨S,L,P,V1,V2,A,T,v,m,l,rfl,hl,hO,h⟩
 refine ⟨S,?_⟩
 unfold stP at h
 have e1:(PH.one S (.cells (stV L P v) 64)::m::tabs l ++ [PH.one L (.cells #[vSl n V1,vSl n V2] 61),PH.one V2 (.cells (idC n n) 3),PH.one V1 (.cells (idC n n) 3),PH.one P (.cells #[.int .i64 (room:Int),vSl 1 A,vSl 1 T,.slice none 0 0,.int .i64 0] 114),PH.one A (.cells node0 96),PH.one T (.cells #[.bool false] 4)] ++ ms) =
  (PH.one S (.cells (stV L P v) 64)::m::tabs l) ++ ([PH.one L (.cells #[vSl n V1,vSl n V2] 61),PH.one V2 (.cells (idC n n) 3),PH.one V1 (.cells (idC n n) 3)] ++ ([PH.one P (.cells #[.int .i64 (room:Int),vSl 1 A,vSl 1 T,.slice none 0 0,.int .i64 0] 114),PH.one A (.cells node0 96),PH.one T (.cells #[.bool false] 4)] ++ ms)):=by simp
 rw [e1] at h
 have g1:=h.perm (show List.Perm _ ([PH.one P (.cells #[.int .i64 (room:Int),vSl 1 A,vSl 1 T,.slice none 0 0,.int .i64 0] 114),PH.one A (.cells node0 96),PH.one T (.cells #[.bool false] 4)] ++ (((PH.one S (.cells (stV L P v) 64)::m::tabs l) ++ [PH.one L (.cells #[vSl n V1,vSl n V2] 61),PH.one V2 (.cells (idC n n) 3),PH.one V1 (.cells (idC n n) 3)]) ++ ms)) by
  rw [← List.append_assoc,← List.append_assoc,← List.append_assoc]
  exact (List.perm_append_comm).append_right ms)
 have g2:=g1.empty.perm (show List.Perm _ ([PH.one P (.cells #[.int .i64 (room:Int),vSl 1 A,vSl 1 T,.slice none 0 0,.int .i64 0] 114),PH.one A (.cells node0 96),PH.one T (.cells #[.bool false] 4),(fun _=>none:PH)] ++ (((PH.one S (.cells (stV L P v) 64)::m::tabs l) ++ [PH.one L (.cells #[vSl n V1,vSl n V2] 61),PH.one V2 (.cells (idC n n) 3),PH.one V1 (.cells (idC n n) 3)]) ++ ms)) from (List.perm_middle (l₁:=[_,_,_]) (a:=(fun _=>none:PH))).symm)
 obtain ⟨mP,hbP,g3⟩:=Sat.pack [PH.one P (.cells #[.int .i64 (room:Int),vSl 1 A,vSl 1 T,.slice none 0 0,.int .i64 0] 114),PH.one A (.cells node0 96),PH.one T (.cells #[.bool false] 4),(fun _=>none:PH)] g2
 have hPool:PoolAt P ⟨room,[none],[]⟩ mP:=by
  refine ⟨⟨h2,show 0<1 by decide,by show 1≤room+1;omega,show 0≤1 by decide,fun i nd h=>?_⟩,A,1,T,1,.slice none 0 0,_,_,_,hbP,?_,?_,?_⟩
  · cases i with
    | zero=>simp at h
    | succ i=>simp at h
  · exact OwnP.lit A 96 5 1 node0 (by decide) rfl
  · exact OwnP.lit T 4 1 1 #[.bool false] (by decide) rfl
  · exact OwnP.nil _ _
 have g4:=g3.perm (show List.Perm _ (tabs l ++ (PH.one S (.cells (stV L P v) 64)::PH.one L (.cells #[vSl n V1,vSl n V2] 61)::PH.one V1 (.cells (idC n n) 3)::PH.one V2 (.cells (idC n n) 3)::mP::m::ms)) by
  refine List.Perm.trans ?_ (List.perm_append_comm (l₁:=(PH.one S (.cells (stV L P v) 64)::PH.one L (.cells #[vSl n V1,vSl n V2] 61)::PH.one V1 (.cells (idC n n) 3)::PH.one V2 (.cells (idC n n) 3)::mP::m::ms)) (l₂:=tabs l))
  classical
  rw [List.perm_iff_count]
  intro a
  simp only [List.count_cons,List.count_append,List.count_nil]
  omega)
 obtain ⟨tms,t1,t2,t3⟩:=packTabs l _ g4
 have g5:=t2.empty.perm (show List.Perm _ (PH.one S (.cells (stV L P v) 64)::PH.one L (.cells #[vSl n V1,vSl n V2] 61)::PH.one V1 (.cells (idC n n) 3)::PH.one V2 (.cells (idC n n) 3)::mP::m::(fun _=>none:PH)::(tms ++ ms)) by
  classical
  rw [List.perm_iff_count]
  intro a
  simp only [List.count_cons,List.count_append]
  omega)
 have hz:idC n n=((List.range n).flatMap ivC).toArray:=by rw [← idC_list]
 have hlit:∀ V,OwnP (PH.one V (.cells (idC n n) 3)) 3 1 (vSl n V) (List.range n).length ((List.range n).flatMap ivC):=fun V=>by
  have:=OwnP.lit V 3 1 n (idC n n) (Nat.le_trans hn (by decide)) (by rw [idC_size (Nat.le_refl n)];omega)
  rw [idC_list] at this
  rw [List.length_range]
  exact this
 obtain ⟨m',hA,hS'⟩:=StAt.close (s:=G.St.new n room) (L:=L) (P:=P) (vV:=vSl n V1) (vL:=vSl n V2) (vT:=v) (vC:=.slice none 0 0) (gs:=l.map (·.1)) (tms:=tms)
  ⟨by simp [G.St.new];omega,by simp [G.St.new];omega,by simp [G.St.new];omega,by simp [G.St.new],by simp [G.St.new],by simp [G.St.new],fun c hc=>by simp [G.St.new] at hc;omega,fun c hc=>by simp [G.St.new] at hc;omega⟩
  (hlit V1) (hlit V2) hPool (by show OwnP _ _ _ _ (List.replicate n []).length _;rw [List.length_replicate,← tabVs_flat];exact hO) (OwnP.nil _ _) (by simp [G.St.new,hl]) (by simp [G.St.new,t1,hl]) (fun x g t tm e1 e2 e3=>by
    have:t=[]:=by
     have e2:(List.replicate n ([]:List G.Ent))[x]?=some t:=e2
     rw [List.getElem?_replicate] at e2
     split at e2
     · injection e2 with e2;exact e2.symm
     · cases e2
    subst this
    exact t3 x g tm e1 e3) g5
 exact ⟨m',rfl,hA,hS'⟩
end Go.Proofs.YtdhkkkhnjooioaaGreat
