import Derived.Test.YtdhkkkhnjooioaaGreatZbb
import Derived.Test.YtdhkkkhnjooioaaGreatZbc
set_option linter.unusedSimpArgs false
set_option linter.unusedVariables false
namespace Go.Proofs.YtdhkkkhnjooioaaGreat.G
def St.valM (s:St) (place steps:Nat):Nat→Nat→Bool × Bool
 | 0,_=>(false,false)
 | k+1,f=>if f=0∨f=1 then (f == 0,true) else match s.at_ f with
   | none=>(false,false)
   | some (v,lo,hi)=>if steps≤v then (false,false) else St.valM s place steps k (if place.testBit v then hi else lo)
theorem StOk.valM {B:Nat} {s:St} (h:StOk B s) (place:Nat):∀ (k f:Nat),val s.nd f→(∀ m,s.nd (f / 2)=some m→s.vars.length<k+lvf s m.v)→0<k→s.valM place s.vars.length k f=(den s.nd f place.testBit,true)
 | k+1,f,hv,hk,_=>by
   unfold St.valM
   by_cases hc:f=0∨f=1
   · rw [if_pos hc]
     have h0:f / 2=0:=by rcases hc with rfl|rfl <;> rfl
     rw [den_const h.can.g0 h0]
     rcases hc with rfl|rfl <;> rfl
   · rw [if_neg hc]
     unfold St.at_
     cases hn:s.nd (f / 2) with
     | none=>rcases hv with hv|hv;omega;rw [hn] at hv;cases hv
     | some n =>
       have hvl:=h.vars _ _ hn
       simp only [Option.map_some]
       rw [if_neg (by omega)]
       have hkid:=h.kid hn (place.testBit n.v)
       have hlv:=(h.pm.lv n.v hvl).1
       have h1:=hk n hn
       have hflip:(if place.testBit n.v=true then flipIf n.hi (f % 2 == 1) else flipIf n.lo (f % 2 == 1))=flipIf (if place.testBit n.v=true then n.hi else n.lo) (f % 2 == 1):=by cases place.testBit n.v <;> rfl
       rw [hflip]
       have ih:=StOk.valM h place k (flipIf (if place.testBit n.v=true then n.hi else n.lo) (f % 2 == 1)) hkid (fun m hm=>by
        rw [flipIf_div] at hm
        have h2:lvf s n.v<lvf s m.v:=by
         cases hb:place.testBit n.v with
         | true=>rw [hb] at hm;exact h.ord.hi _ n hn (Nat.zero_le _) m hm
         | false=>rw [hb] at hm;exact h.ord.lo _ n hn (Nat.zero_le _) m hm
        omega) (by omega)
       rw [ih,den_flipIf,den_node h.can.toAcyc hn]
theorem StOk.valM' {B:Nat} {s:St} (h:StOk B s) (place:Nat) {f:Nat} (hv:val s.nd f):s.valM place s.vars.length (s.vars.length+1) f=(den s.nd f place.testBit,true) :=
 h.valM place _ f hv (fun m hm=>by omega) (by omega)
end Go.Proofs.YtdhkkkhnjooioaaGreat.G
namespace Go.Proofs.YtdhkkkhnjooioaaGreat
open Go.RowKit
def BoolR (I:PH) (v:Value) (l:List Bool):Prop:=(∃ A c,v=.slice A l.length c)∧(0<l.length→∃ X c,v=.slice (some ⟨X,0,none⟩) l.length c∧∀ (i:Nat) x,l[i]?=some x→I.at X i=some (.bool x))
theorem BoolR.le {I J:PH} {v:Value} {l:List Bool} (h:BoolR I v l) (hJ:I.le J):BoolR J v l:=⟨h.1,fun hl=>by
 obtain ⟨X,c,h1,h2⟩:=h.2 hl
 exact ⟨X,c,h1,fun i x hx=>PH.at_le hJ (h2 i x hx)⟩⟩
def bvC (b:Bool):List Value:=[.bool b]
theorem bvC_len (b:Bool):(bvC b).length=1:=rfl
theorem OwnP.boolR {m:PH} {e:TypeId} {v:Value} {l:List Bool} (h:OwnP m e 1 v l.length (l.flatMap bvC)):BoolR m v l:=by
 refine ⟨?_,fun hl=>?_⟩
 · obtain ⟨A,c,h1,_⟩:=h.shape
   exact ⟨A,c,h1⟩
 · obtain ⟨X,c,rfl,_⟩:=h.ptr hl
   refine ⟨X,c,rfl,fun i x hx=>?_⟩
   have:=(flat_cells bvC_len h hx).at 0 rfl
   rwa [Nat.mul_one,Nat.add_zero] at this
set_option maxRecDepth 100000 in
set_option maxHeartbeats 4000000 in
theorem nsame_any {E w:World} {I:PH} {ms:List PH} {v u:Value} {l m:List Nat} (hl:NumR I v l) (hm:NumR I u m) (hb:l.length≤4611686018427387904) (hS:Sat E I ms w) :
 Calls Tryz.prog 15 #[v,u] w fun e w'=>e=.returned (.bool (decide (l=m)))∧Sat E I ms w':=by
 obtain ⟨⟨A,c,rfl⟩,hl2⟩:=hl
 obtain ⟨⟨B,d,rfl⟩,hm2⟩:=hm
 by_cases hlen:l.length=m.length
 case neg =>
  have hne:decide (l=m)=false:=decide_eq_false fun h=>hlen (by rw [h])
  rw [hne]
  have hli:¬ (l.length:Int)=(m.length:Int):=by omega
  clear hl2 hm2 hne
  generalize l.length=a at *
  generalize m.length=b at *
  go_enter Tryz.func15,Tryz.ntmps15
  go_wp2
  go_ret
  exact ⟨rfl,hS⟩
 case pos =>
  have hdec:∀ i,i<l.length→l[i]?≠m[i]?→decide (l=m)=false:=fun i _ h=>decide_eq_false fun e=>h (by rw [e])
  have heq:(∀ i,i<l.length→l[i]?=m[i]?)→decide (l=m)=true:=fun h=>decide_eq_true (List.ext_getElem? fun i=>by
   by_cases hi:i<l.length
   · exact h i hi
   · rw [List.getElem?_eq_none (by omega),List.getElem?_eq_none (by omega)])
  have hld:∀ i,i<l.length→∃ x y X Y c' d',l[i]?=some x∧m[i]?=some y∧A=some ⟨X,0,none⟩∧B=some ⟨Y,0,none⟩∧I.at X i=some (nv x)∧I.at Y i=some (nv y)∧c'=c∧d'=d:=fun i hi=>by
   obtain ⟨X,c',e1,h1⟩:=hl2 (by omega)
   obtain ⟨Y,d',e2,h2⟩:=hm2 (by omega)
   injection e1 with e1
   injection e2 with e2
   have hx:=List.getElem?_eq_getElem hi
   have hy:=List.getElem?_eq_getElem (show i<m.length by omega)
   exact ⟨l[i],m[i]'(by omega),X,Y,c,d,hx,hy,e1,e2,h1 i _ hx,h2 i _ hy,rfl,rfl⟩
  have Hdec:=Lib.hid hdec
  have Heq:=Lib.hid heq
  have Hld:=Lib.hid hld
  clear hdec heq hld hl2 hm2
  generalize hr:decide (l=m)=r at *
  rw [← hlen] at *
  clear hlen
  generalize hn:l.length=n at *
  have hbi:(n:Int)≤4611686018427387904:=by omega
  go_enter Tryz.func15,Tryz.ntmps15
  go_wp2_with fail
  go_loopw [5] (fun v5 wr=>∃ i:Nat,i≤n∧v5=.int .i64 (i:Int)∧(∀ j,j<i→l[j]?=m[j]?)∧Sat E I ms wr) (fun v5 _=>(n - intOf v5).toNat)
  case atStart=>exact ⟨0,Nat.zero_le _,rfl,fun j hj=>by omega,hS⟩
  case round =>
   clear hS
   obtain ⟨i,hin,rfl,hp,hS⟩:=hrel
   have Hp:=Lib.hid hp
   clear hp
   by_cases hlt:i<n
   · obtain ⟨x,y,X,Y,c',d',hx,hy,rfl,rfl,fx,fy,rfl,rfl⟩:=Hld.out i hlt
     have ii:(i:Int)<(n:Int):=by omega
     by_cases hxy:x=y
     · have hnx:((x:Int) != (y:Int))=false:=by subst hxy;simp
       have hs:∀ j,j<i+1→l[j]?=m[j]?:=fun j hj=>by
        by_cases hji:j=i
        · subst hji;rw [hx,hy,hxy]
        · exact Hp.out j (by omega)
       have Hs:=Lib.hid hs
       clear hs hx hy
       go_wp2_with fail
       refine region_c1 [[],[],[0,1],[0,1,2],[],[],[4,5],[4,5,6],[0,1,2,3,4,5,6,7]] E I _
        [fun v _=>v=.slice (some ⟨X,0,none⟩) n c',fun v _=>v=nv i,fun v _=>v=.pointer (some ⟨X,i,none⟩),fun v _=>v=nv x,fun v _=>v=.slice (some ⟨Y,0,none⟩) n d',fun v _=>v=nv i,fun v _=>v=.pointer (some ⟨Y,i,none⟩),fun v _=>v=nv y,fun v _=>v=.bool false] [] (fun _ _ _ ns=>ns=ms) (by kernel_rfl) (by kernel_rfl) (by decide) hS rfl ?last (fun _ _ _ _ _ _ h=>h) (fun _ _ _ _ _ _ h=>h) ?plain ?step ?fin
       case last=>repeat (first|exact Lasting.nil|refine Lasting.cons (fun _ _ _ _ h=>h) ?_)
       case plain=>subst hxy;(repeat' (first|exact trivial|apply And.intro)) <;>  (refine .inr ?_;intro s vals J bs w hstop hg hJ hS hG;clear hG;simp only [zH,zI,Given,Facts] at hg;simp only [textL,actL,dstAt,opAt,zH,zI,zA,zB,zK,if_true,Act.put,zE,zF,zG,hg];refine ⟨?_⟩;refine wpStep_of (fun K hK=>?_);have HK:=Lib.hid hK;clear hK;rw [if_pos (by rfl)];(first|((with_reducible refine atLoad ?_);first|((refine' wp_ldi1 (v:=_) hS hJ ?ha rfl ?hc ?_);(case ha=>first|exact ty_agg3);(case hc=>assumption)))|(go_wp2_with (fail)));refine HK.out _ _ ⟨rfl,J,PH.le.refl _,hS,?_⟩;clear HK;simp only [Facts];simp only [outOf,zH,zI,Act.put,zE,zF,zG,zD,zC,zA,zB,zJ])
       case step=>trivial
       case fin =>
        intro vals J9 bs w hJ hg hS9 hG
        have hG:bs=ms:=hG
        rw [hG] at hS9
        have hS2:=hS9.less hJ
        clear hJ hG hS9 hS
        simp only [List.length_cons,List.length_nil,Nat.reduceAdd,Below_,Facts,zH,zI,true_and] at hg;simp only [List.length_cons,List.length_nil,Nat.reduceAdd,textL,actL,dstAt,zA,zB,zK,if_true,Act.put,zE,zF,zG,hg];refine ⟨?_⟩
        clear hg
        go_wp2_with fail
        exact ⟨⟨i+1,by omega,by go_num,Hs.out,hS2⟩,by simp [intOf];omega⟩
     · have hnx:((x:Int) != (y:Int))=true:=by have h9:¬ (x:Int)=(y:Int):=(by omega);simpa using h9
       have hxyi:¬ (x:Int)=(y:Int):=by omega
       have hr2:=Hdec.out i (by omega) (by rw [hx,hy];intro h;injection h with h;exact hxy h)
       have Hr:=Lib.hid hr2
       clear hr2 hx hy
       go_wp2_with fail
       refine region_c1 [[],[],[0,1],[0,1,2],[],[],[4,5],[4,5,6],[0,1,2,3,4,5,6,7]] E I _
        [fun v _=>v=.slice (some ⟨X,0,none⟩) n c',fun v _=>v=nv i,fun v _=>v=.pointer (some ⟨X,i,none⟩),fun v _=>v=nv x,fun v _=>v=.slice (some ⟨Y,0,none⟩) n d',fun v _=>v=nv i,fun v _=>v=.pointer (some ⟨Y,i,none⟩),fun v _=>v=nv y,fun v _=>v=.bool true] [] (fun _ _ _ ns=>ns=ms) (by kernel_rfl) (by kernel_rfl) (by decide) hS rfl ?last (fun _ _ _ _ _ _ h=>h) (fun _ _ _ _ _ _ h=>h) ?plain ?step ?fin
       case last=>repeat (first|exact Lasting.nil|refine Lasting.cons (fun _ _ _ _ h=>h) ?_)
       case plain=>(repeat' (first|exact trivial|apply And.intro)) <;>  (refine .inr ?_;intro s vals J bs w hstop hg hJ hS hG;clear hG;simp only [zH,zI,Given,Facts] at hg;simp only [textL,actL,dstAt,opAt,zH,zI,zA,zB,zK,if_true,Act.put,zE,zF,zG,hg];refine ⟨?_⟩;refine wpStep_of (fun K hK=>?_);have HK:=Lib.hid hK;clear hK;rw [if_pos (by rfl)];(first|((with_reducible refine atLoad ?_);first|((refine' wp_ldi1 (v:=_) hS hJ ?ha rfl ?hc ?_);(case ha=>first|exact ty_agg3);(case hc=>assumption)))|(go_wp2_with (fail)));refine HK.out _ _ ⟨rfl,J,PH.le.refl _,hS,?_⟩;clear HK;simp only [Facts];simp only [outOf,zH,zI,Act.put,zE,zF,zG,zD,zC,zA,zB,zJ])
       case step=>trivial
       case fin =>
        intro vals J9 bs w hJ hg hS9 hG
        have hG:bs=ms:=hG
        rw [hG] at hS9
        have hS2:=hS9.less hJ
        clear hJ hG hS9 hS
        simp only [List.length_cons,List.length_nil,Nat.reduceAdd,Below_,Facts,zH,zI,true_and] at hg;simp only [List.length_cons,List.length_nil,Nat.reduceAdd,textL,actL,dstAt,zA,zB,zK,if_true,Act.put,zE,zF,zG,hg];refine ⟨?_⟩
        clear hg
        go_wp2_with fail
        go_ret
        refine ⟨?_,hS2⟩
        rw [Hr.out]
        rfl
   · have hie:i=n:=by omega
     subst hie
     have hr2:=Heq.out (fun j hj=>Hp.out j (by omega))
     have Hr:=Lib.hid hr2
     clear hr2
     go_wp2_with fail
     go_ret
     refine ⟨?_,hS⟩
     rw [Hr.out]
     rfl
set_option maxRecDepth 100000 in
set_option maxHeartbeats 4000000 in
theorem bsame_any {E w:World} {I:PH} {ms:List PH} {v u:Value} {l m:List Bool} (hl:BoolR I v l) (hm:BoolR I u m) (hb:l.length≤4611686018427387904) (hS:Sat E I ms w) :
 Calls Tryz.prog 17 #[v,u] w fun e w'=>e=.returned (.bool (decide (l=m)))∧Sat E I ms w':=by
 obtain ⟨⟨A,c,rfl⟩,hl2⟩:=hl
 obtain ⟨⟨B,d,rfl⟩,hm2⟩:=hm
 by_cases hlen:l.length=m.length
 case neg =>
  have hne:decide (l=m)=false:=decide_eq_false fun h=>hlen (by rw [h])
  rw [hne]
  have hli:¬ (l.length:Int)=(m.length:Int):=by omega
  clear hl2 hm2 hne
  generalize l.length=a at *
  generalize m.length=b at *
  go_enter Tryz.func17,Tryz.ntmps17
  go_wp2
  go_ret
  exact ⟨rfl,hS⟩
 case pos =>
  have hdec:∀ i,i<l.length→l[i]?≠m[i]?→decide (l=m)=false:=fun i _ h=>decide_eq_false fun e=>h (by rw [e])
  have heq:(∀ i,i<l.length→l[i]?=m[i]?)→decide (l=m)=true:=fun h=>decide_eq_true (List.ext_getElem? fun i=>by
   by_cases hi:i<l.length
   · exact h i hi
   · rw [List.getElem?_eq_none (by omega),List.getElem?_eq_none (by omega)])
  have hld:∀ i,i<l.length→∃ x y X Y c' d',l[i]?=some x∧m[i]?=some y∧A=some ⟨X,0,none⟩∧B=some ⟨Y,0,none⟩∧I.at X i=some (.bool x)∧I.at Y i=some (.bool y)∧c'=c∧d'=d:=fun i hi=>by
   obtain ⟨X,c',e1,h1⟩:=hl2 (by omega)
   obtain ⟨Y,d',e2,h2⟩:=hm2 (by omega)
   injection e1 with e1
   injection e2 with e2
   have hx:=List.getElem?_eq_getElem hi
   have hy:=List.getElem?_eq_getElem (show i<m.length by omega)
   exact ⟨l[i],m[i]'(by omega),X,Y,c,d,hx,hy,e1,e2,h1 i _ hx,h2 i _ hy,rfl,rfl⟩
  have Hdec:=Lib.hid hdec
  have Heq:=Lib.hid heq
  have Hld:=Lib.hid hld
  clear hdec heq hld hl2 hm2
  generalize hr:decide (l=m)=r at *
  rw [← hlen] at *
  clear hlen
  generalize hn:l.length=n at *
  have hbi:(n:Int)≤4611686018427387904:=by omega
  go_enter Tryz.func17,Tryz.ntmps17
  go_wp2_with fail
  go_loopw [5] (fun v5 wr=>∃ i:Nat,i≤n∧v5=.int .i64 (i:Int)∧(∀ j,j<i→l[j]?=m[j]?)∧Sat E I ms wr) (fun v5 _=>(n - intOf v5).toNat)
  case atStart=>exact ⟨0,Nat.zero_le _,rfl,fun j hj=>by omega,hS⟩
  case round =>
   clear hS
   obtain ⟨i,hin,rfl,hp,hS⟩:=hrel
   have Hp:=Lib.hid hp
   clear hp
   by_cases hlt:i<n
   · obtain ⟨x,y,X,Y,c',d',hx,hy,rfl,rfl,fx,fy,rfl,rfl⟩:=Hld.out i hlt
     have ii:(i:Int)<(n:Int):=by omega
     by_cases hxy:x=y
     · have hnx:(!(x == y))=false:=by subst hxy;simp
       have hs:∀ j,j<i+1→l[j]?=m[j]?:=fun j hj=>by
        by_cases hji:j=i
        · subst hji;rw [hx,hy,hxy]
        · exact Hp.out j (by omega)
       have Hs:=Lib.hid hs
       clear hs hx hy
       go_wp2_with fail
       refine region_c1 [[],[],[0,1],[0,1,2],[],[],[4,5],[4,5,6],[0,1,2,3,4,5,6,7]] E I _
        [fun v _=>v=.slice (some ⟨X,0,none⟩) n c',fun v _=>v=nv i,fun v _=>v=.pointer (some ⟨X,i,none⟩),fun v _=>v=.bool x,fun v _=>v=.slice (some ⟨Y,0,none⟩) n d',fun v _=>v=nv i,fun v _=>v=.pointer (some ⟨Y,i,none⟩),fun v _=>v=.bool y,fun v _=>v=.bool false] [] (fun _ _ _ ns=>ns=ms) (by kernel_rfl) (by kernel_rfl) (by decide) hS rfl ?last (fun _ _ _ _ _ _ h=>h) (fun _ _ _ _ _ _ h=>h) ?plain ?step ?fin
       case last=>repeat (first|exact Lasting.nil|refine Lasting.cons (fun _ _ _ _ h=>h) ?_)
       case plain=>subst hxy;(repeat' (first|exact trivial|apply And.intro)) <;>  (refine .inr ?_;intro s vals J bs w hstop hg hJ hS hG;clear hG;simp only [zH,zI,Given,Facts] at hg;simp only [textL,actL,dstAt,opAt,zH,zI,zA,zB,zK,if_true,Act.put,zE,zF,zG,hg];refine ⟨?_⟩;refine wpStep_of (fun K hK=>?_);have HK:=Lib.hid hK;clear hK;rw [if_pos (by rfl)];(first|((with_reducible refine atLoad ?_);first|((refine' wp_ldi1 (v:=_) hS hJ ?ha rfl ?hc ?_);(case ha=>first|exact ty_agg4);(case hc=>assumption)))|(go_wp2_with (fail)));refine HK.out _ _ ⟨rfl,J,PH.le.refl _,hS,?_⟩;clear HK;simp only [Facts];simp only [outOf,zH,zI,Act.put,zE,zF,zG,zD,zC,zA,zB,zJ])
       case step=>trivial
       case fin =>
        intro vals J9 bs w hJ hg hS9 hG
        have hG:bs=ms:=hG
        rw [hG] at hS9
        have hS2:=hS9.less hJ
        clear hJ hG hS9 hS
        simp only [List.length_cons,List.length_nil,Nat.reduceAdd,Below_,Facts,zH,zI,true_and] at hg;simp only [List.length_cons,List.length_nil,Nat.reduceAdd,textL,actL,dstAt,zA,zB,zK,if_true,Act.put,zE,zF,zG,hg];refine ⟨?_⟩
        clear hg
        go_wp2_with fail
        exact ⟨⟨i+1,by omega,by go_num,Hs.out,hS2⟩,by simp [intOf];omega⟩
     · have hnx:(!(x == y))=true:=by simpa using hxy
       have hyx:y=!x:=by cases x <;> cases y <;> simp_all
       have hr2:=Hdec.out i (by omega) (by rw [hx,hy];intro h;injection h with h;exact hxy h)
       have Hr:=Lib.hid hr2
       clear hr2 hx hy
       go_wp2_with fail
       refine region_c1 [[],[],[0,1],[0,1,2],[],[],[4,5],[4,5,6],[0,1,2,3,4,5,6,7]] E I _
        [fun v _=>v=.slice (some ⟨X,0,none⟩) n c',fun v _=>v=nv i,fun v _=>v=.pointer (some ⟨X,i,none⟩),fun v _=>v=.bool x,fun v _=>v=.slice (some ⟨Y,0,none⟩) n d',fun v _=>v=nv i,fun v _=>v=.pointer (some ⟨Y,i,none⟩),fun v _=>v=.bool y,fun v _=>v=.bool true] [] (fun _ _ _ ns=>ns=ms) (by kernel_rfl) (by kernel_rfl) (by decide) hS rfl ?last (fun _ _ _ _ _ _ h=>h) (fun _ _ _ _ _ _ h=>h) ?plain ?step ?fin
       case last=>repeat (first|exact Lasting.nil|refine Lasting.cons (fun _ _ _ _ h=>h) ?_)
       case plain=>(repeat' (first|exact trivial|apply And.intro)) <;>  (refine .inr ?_;intro s vals J bs w hstop hg hJ hS hG;clear hG;simp only [zH,zI,Given,Facts] at hg;simp only [textL,actL,dstAt,opAt,zH,zI,zA,zB,zK,if_true,Act.put,zE,zF,zG,hg];refine ⟨?_⟩;refine wpStep_of (fun K hK=>?_);have HK:=Lib.hid hK;clear hK;rw [if_pos (by rfl)];(first|((with_reducible refine atLoad ?_);first|((refine' wp_ldi1 (v:=_) hS hJ ?ha rfl ?hc ?_);(case ha=>first|exact ty_agg4);(case hc=>assumption)))|(go_wp2_with (fail)));refine HK.out _ _ ⟨rfl,J,PH.le.refl _,hS,?_⟩;clear HK;simp only [Facts];simp only [outOf,zH,zI,Act.put,zE,zF,zG,zD,zC,zA,zB,zJ])
       case step=>trivial
       case fin =>
        intro vals J9 bs w hJ hg hS9 hG
        have hG:bs=ms:=hG
        rw [hG] at hS9
        have hS2:=hS9.less hJ
        clear hJ hG hS9 hS
        simp only [List.length_cons,List.length_nil,Nat.reduceAdd,Below_,Facts,zH,zI,true_and] at hg;simp only [List.length_cons,List.length_nil,Nat.reduceAdd,textL,actL,dstAt,zA,zB,zK,if_true,Act.put,zE,zF,zG,hg];refine ⟨?_⟩
        clear hg
        go_wp2_with fail
        go_ret
        refine ⟨?_,hS2⟩
        rw [Hr.out]
        rfl
   · have hie:i=n:=by omega
     subst hie
     have hr2:=Heq.out (fun j hj=>Hp.out j (by omega))
     have Hr:=Lib.hid hr2
     clear hr2
     go_wp2_with fail
     go_ret
     refine ⟨?_,hS⟩
     rw [Hr.out]
     rfl
theorem half_iter (p:Nat):∀ i,p / 2 ^ (i+1)=p / 2 ^ i / 2:=fun i=>by rw [Nat.pow_succ,Nat.div_div_eq_div_mul]
theorem at12_any (w:World) (p v:Nat) (hp:p<4611686018427387904) (hv:v<4611686018427387904):Calls Tryz.prog 79 #[nv p,nv v] w fun e w'=>e=.returned (.bool (p.testBit v))∧w=w':=by
 go_enter Tryz.func79,Tryz.ntmps79
 go_wp2_with fail
 go_loop [0,5] (fun v0 v5=>∃ i:Nat,i≤v∧v5=.int .i64 (i:Int)∧v0=nv (p / 2 ^ i)) (fun _ v5=>(v - intOf v5).toNat)
 case atStart=>exact ⟨0,Nat.zero_le _,rfl,by simp⟩
 case round =>
  obtain ⟨i,hi,rfl,rfl⟩:=hrel
  have hle:p / 2 ^ i≤p:=Nat.div_le_self _ _
  have hh:=half_iter p i
  have htb:=Nat.testBit_eq_decide_div_mod_eq (x:=p) (i:=v)
  by_cases hlt:i<v
  · generalize p / 2 ^ i=q at *
    generalize hq2:q / 2=q2 at *
    have h2:(q:Int) / 2=(q2:Int):=by omega
    clear htb hq2
    go_wp2
    exact ⟨⟨i+1,by omega,by go_num,by rw [hh]⟩,by simp [intOf];omega⟩
  · have hiv:i=v:=by omega
    subst hiv
    have Htb:=Lib.hid htb
    generalize p / 2 ^ i=q at *
    clear htb hh
    go_wp2
    go_ret
    refine ⟨?_,rfl⟩
    have:((q:Int) % 2 == 1)=decide (q % 2=1):=by
     rcases Nat.mod_two_eq_zero_or_one q with h|h <;> (simp [h];omega)
    show Ending.returned (.bool ((q:Int) % 2 == 1))=_
    rw [this,Htb.out]
theorem places_any (w:World) (n:Nat) (hn:n≤61):Calls Tryz.prog 22 #[nv n] w fun e w'=>e=.returned (nv (2 ^ n))∧w=w':=by
 go_enter Tryz.func22,Tryz.ntmps22
 go_wp2_with fail
 go_loop [3,4] (fun v3 v4=>∃ i:Nat,i≤n∧v4=.int .i64 (i:Int)∧v3=nv (2 ^ i)) (fun _ v4=>(n - intOf v4).toNat)
 case atStart=>exact ⟨0,Nat.zero_le _,rfl,rfl⟩
 case round =>
  obtain ⟨i,hi,rfl,rfl⟩:=hrel
  have hp:2 ^ i≤2 ^ 61:=Nat.pow_le_pow_right (by decide) (by omega)
  have hs:2 ^ (i+1)=2 * 2 ^ i:=by rw [Nat.pow_succ];omega
  have hp2:(2:Nat) ^ 61=2305843009213693952:=by decide
  rw [hp2] at hp
  clear hp2
  by_cases hlt:i<n
  · generalize 2 ^ i=q at *
    generalize hq2:2 * q=q2 at *
    have h2:2 * (q:Int)=(q2:Int):=by omega
    clear hq2
    have Hs:=Lib.hid hs
    clear hs
    go_wp2
    exact ⟨⟨i+1,by omega,by go_num,by rw [Hs.out]⟩,by simp [intOf];omega⟩
  · have hiv:i=n:=by omega
    subst hiv
    clear hs
    generalize hq:2 ^ i=q at *
    have Hq:=Lib.hid hq
    clear hq
    go_wp2
    go_ret
    refine ⟨?_,rfl⟩
    show Ending.returned (nv q)=_
    rw [← Hq.out]
end Go.Proofs.YtdhkkkhnjooioaaGreat
