import Derived.Test.YtidamcdklgfogaaGreatZab
import Derived.WalkKit
import Derived.Test.YtidamcdklgfogaaGreatPost
import Derived.Lib.Hide
import Derived.Deep.Light
import Derived.Laws.BytesArg
import Derived.Deep.DeepCutAuto
import Derived.Deep.QuietTactic
import Derived.BigQuiet
set_option linter.unusedSimpArgs false
set_option linter.unusedVariables false
set_option maxHeartbeats 1000000
namespace Go.Proofs.YtidamcdklgfogaaGreat
section
def dg (n:Nat):List Nat:=if n<10 then [n] else dg (n / 10) ++ [n % 10]
termination_by n
decreasing_by omega
def val (l:List Nat):Nat:=l.foldl (fun a d=>10 * a+d) 0
theorem dg_small {n:Nat} (h:n<10):dg n=[n]:=by rw [dg,if_pos h]
theorem dg_big {n:Nat} (h:10≤n):dg n=dg (n / 10) ++ [n % 10]:=by rw [dg,if_neg (by omega)]
theorem dg_lt (n:Nat):∀ d ∈ dg n,d<10:=by
 induction n using Nat.strongRecOn with
 | _ n ih =>
   by_cases h:n<10
   · rw [dg_small h];simpa using h
   · rw [dg_big (by omega)]
     intro d hd
     rcases List.mem_append.1 hd with h1|h1
     · exact ih (n / 10) (by omega) d h1
     · simp at h1;omega
theorem dg_ne (n:Nat):dg n≠[]:=by
 by_cases h:n<10
 · rw [dg_small h];simp
 · rw [dg_big (by omega)];simp
def bytes (l:List Nat):List UInt8:=l.map fun d=>UInt8.ofNat (48+d)
theorem dg_len_le (n k:Nat) (h:n<10 ^ k) (hk:0<k):(dg n).length≤k:=by
 induction k generalizing n with
 | zero=>omega
 | succ k ih =>
   by_cases h1:n<10
   · rw [dg_small h1];simp
   · rw [dg_big (by omega),yG,List.length_singleton]
     have hk':0<k:=by
      rcases Nat.eq_zero_or_pos k with rfl|hk'
      · simp at h;omega
      · exact hk'
     have:=ih (n / 10) (by rw [Nat.pow_succ] at h;omega) hk'
     omega
end
section
open Go.ChangeShapes Go.WideShapes Go.ChangeAt Go.RowKit
def I64 (a:Int):Prop := -9223372036854775808≤a∧a≤9223372036854775807
theorem reti {k:IntKind} {a b:Int} (h:a=b):Ending.returned (.int k a)=.returned (.int k b):=by rw [h]
theorem size_any (n:Int) (w:World) (hn:I64 n) :
  Calls Tryz.prog 77 #[.int .i64 n] w fun r w'=>r=.returned (.int .u64 (n.natAbs:Int))∧w=w':=by
 by_cases h:n<0
 · go_enter Tryz.func77,Tryz.ntmps77
   go_wp2
   go_ret
   refine ⟨reti ?_,rfl⟩
   go_light
   unfold I64 at hn
   simp only [IntKind.wrap_u64]
   omega
 · go_enter Tryz.func77,Tryz.ntmps77
   go_wp2
   go_ret
   refine ⟨reti ?_,rfl⟩
   go_light
   unfold I64 at hn
   simp only [IntKind.wrap_u64]
   omega
theorem rsize_any (n:Int) (w:World) (hn:I64 n) :
  Calls Tryz.prog 79 #[.int .i64 n] w fun r w'=>r=.returned (.int .u64 (n.natAbs:Int))∧w=w':=by
 by_cases h:n<0
 · go_enter Tryz.func79,Tryz.ntmps79
   go_wp2
   go_ret
   refine ⟨reti ?_,rfl⟩
   go_light
   unfold I64 at hn
   simp only [IntKind.wrap_u64,wrap64]
   omega
 · go_enter Tryz.func79,Tryz.ntmps79
   go_wp2
   go_ret
   refine ⟨reti ?_,rfl⟩
   go_light
   unfold I64 at hn
   simp only [IntKind.wrap_u64]
   omega
end
section
open Go.ChangeShapes Go.WideShapes Go.ChangeAt Go.RowKit
def Zj (l:List Nat):List Int:=l.map fun d=>((48+d:Nat):Int)
theorem Zl (l:List Nat):(Zj l).length=l.length:=by simp [Zj]
def ntextL (n:Int):List Int:=(if n<0 then [45] else []) ++ Zj (dg n.natAbs)
def Yw (n:Int):ByteArray:=strOfNums (ntextL n)
theorem dg_len19 (n:Int) (h:I64 n):(dg n.natAbs).length≤19:=dg_len_le _ _ (by unfold I64 at h;omega) (by omega)
def At (m u:Nat) (acc:List Nat):Prop:=(acc=[]∧u=m)∨(acc≠[]∧(0<u→dg u ++ acc=dg m)∧(u=0→acc=dg m))
theorem At.step {m u:Nat} {acc:List Nat} (h:At m u acc) (hgo:acc=[]∨0<u):At m (u / 10) (u % 10::acc):=by
 right
 refine ⟨by simp,?_,?_⟩
 · intro hu
   rcases h with ⟨rfl,rfl⟩|⟨h1,h2,_⟩
   · rw [dg_big (n:=u) (by omega)]
   · rw [← h2 (by omega),dg_big (n:=u) (by omega),List.append_assoc];rfl
 · intro hu
   rcases h with ⟨rfl,rfl⟩|⟨h1,h2,_⟩
   · rw [dg_small (n:=u) (by omega),Nat.mod_eq_of_lt (by omega)]
   · have h3:0<u:=by rcases hgo with h|h;exact absurd h h1;exact h
     rw [← h2 h3,dg_small (n:=u) (by omega),Nat.mod_eq_of_lt (by omega)];rfl
theorem At.stop {m u:Nat} {acc:List Nat} (h:At m u acc) (h1:acc≠[]) (h2:u=0):acc=dg m:=by
 rcases h with ⟨h,_⟩|⟨_,_,h⟩
 · exact absurd h h1
 · exact h h2
theorem At.len {m u:Nat} {acc:List Nat} (h:At m u acc) (hgo:acc=[]∨0<u) (hm:(dg m).length≤19):acc.length≤18:=by
 rcases h with ⟨rfl,_⟩|⟨h1,h2,_⟩
 · simp
 · rcases hgo with h|h
   · exact absurd h h1
   · have:=h2 h
     have h3:=congrArg List.length this
     have h4:0<(dg u).length:=List.length_pos_iff.2 (dg_ne u)
     rw [yG] at h3
     omega
def cellsA (acc:List Int):Array Value:=(List.replicate (20 - acc.length) (Value.int .u8 0) ++ acc.map (Value.int .u8)).toArray
theorem cellsA_get (acc:List Int) (i:Nat) (h:i<acc.length) (hl:acc.length≤20):(cellsA acc)[20 - acc.length+i]?=some (.int .u8 (acc.getD i 0)):=by
 simp only [cellsA,List.getElem?_toArray]
 rw [List.getElem?_append_right (by simp),List.length_replicate,show 20 - acc.length+i - (20 - acc.length)=i by omega]
 simp [h]
theorem cellsA_push (acc:List Int) (d:Int) (q:Nat) (h:q+1+acc.length=20):(cellsA acc).setIfInBounds q (.int .u8 d)=cellsA (d::acc):=by
 have h1:20 - acc.length=q+1:=by omega
 have h2:20 - (acc.length+1)=q:=by omega
 simp only [cellsA,yB,h1,h2,List.map_cons]
 apply Array.ext'
 simp only [Array.toList_setIfInBounds]
 rw [List.replicate_succ',List.append_assoc,List.set_append_right _ _ (by simp)]
 simp
theorem cellsA_zero (acc:List Int) (q:Nat) (h:q+1+acc.length=20):(cellsA acc)[q]?=some (.int .u8 0):=by
 simp only [cellsA,List.getElem?_toArray]
 rw [List.getElem?_append_left (by rw [List.length_replicate];omega),List.getElem?_replicate,if_pos (by omega)]
theorem rets {a b:ByteArray} (h:b=a):Ending.returned (.string a)=.returned (.string b):=by rw [h]
theorem cellsA_cell (w:World) (acc:List Int) (q:Nat) (h:q+acc.length=20) (i:Nat) (hi:i<20 - q) (t:TypeId):(w.alloc (.cells (cellsA acc) t)).cell? ⟨w.heap.size,q+i,none⟩=some (.int .u8 (acc.getD i 0)):=by
 rw [World.cell?_alloc_new]
 have:=cellsA_get acc i (by omega) (by omega)
 rwa [show 20 - acc.length=q by omega] at this
theorem text_any (n:Int) (w:World) (hn:I64 n) :
  Calls Tryz.prog 32 #[.int .i64 n] w fun r w'=>r=.returned (.string (Yw n))∧Below w.heap.size w w':=by
 have h19:=dg_len19 n hn
 have hs:=fun w=>size_any n w hn
 have Hs:=yH hs
 have hb:(n.natAbs:Int)≤9223372036854775808:=by unfold I64 at hn;omega
 clear hs hn
 generalize hm:n.natAbs=m at *
 have Hm:=yH hm
 have H19:=yH h19
 clear hm h19
 go_enter Tryz.func32,Tryz.ntmps32
 go_wp2_with (go_at_call 77;refine (Hs.out _).mono ?_;rintro r w' ⟨rfl,rfl⟩)
 go_loopw [4,5] (fun p u wr=>∃ (acc:List Nat) (q v:Nat),q+acc.length=20∧p=.int .i64 q∧u=.int .u64 v∧(v:Int)≤9223372036854775808∧At m v acc∧wr=w.alloc (.cells (cellsA (Zj acc)) 135)) (fun p _ _=>(intOf p).toNat)
 case atStart=>exact ⟨[],20,m,rfl,rfl,rfl,hb,Or.inl ⟨rfl,rfl⟩,rfl⟩
 case round =>
  obtain ⟨acc,q,v,hq,rfl,rfl,hv,hat,rfl⟩:=hrel
  have Hat:=yH hat
  clear hat
  by_cases hA:acc=[]
  · subst hA
    obtain rfl:q=20:=by simpa using hq
    have hst:=Hat.out.step (Or.inl rfl)
    have Hst:=yH hst
    have hpush:=cellsA_push (Zj []) ((48+v % 10:Nat):Int) 19 rfl
    have hc0:(cellsA (Zj []))[19]?=some (.int .u8 0):=rfl
    have Hpush:=yH hpush
    clear hst hq hpush
    go_wp2
    go_roundw
    case rel=>exact ⟨[v % 10],19,v / 10,rfl,rfl,by go_num,by omega,Hst.out,by rw [show (48+(v:Int) % 10)=((48+v % 10:Nat):Int) from by omega,Hpush.out];rfl⟩
    case measure=>simp [intOf]
  · have ha1:1≤acc.length:=by cases acc with|nil=>exact absurd rfl hA|cons _ _=>simp
    by_cases hv0:0<v
    · have hl:=Hat.out.len (Or.inr hv0) H19.out
      obtain ⟨p,rfl⟩:∃ p,q=p+1:=⟨q - 1,by omega⟩
      have hp:p<20:=by omega
      have hne:((p:Int)+1 == 20)=false:=by rw [beq_eq_false_iff_ne];omega
      have hcell:=cellsA_zero (Zj acc) p (by rw [Zl];exact hq)
      have hst:=Hat.out.step (Or.inr hv0)
      have Hst:=yH hst
      have hpush:=cellsA_push (Zj acc) ((48+v % 10:Nat):Int) p (by rw [Zl];exact hq)
      have Hpush:=yH hpush
      have Hq:=yH hq
      clear hq hst hpush
      go_wp2
      go_roundw
      case rel=>exact ⟨v % 10::acc,p,v / 10,by have:=Hq.out;rw [yB];omega,rfl,by go_num,by omega,Hst.out,by rw [show (48+(v:Int) % 10)=((48+v % 10:Nat):Int) from by omega,Hpush.out];rfl⟩
      case measure=>simp [intOf]
    · obtain rfl:v=0:=by omega
      have hne:((q:Int) == 20)=false:=by rw [beq_eq_false_iff_ne];omega
      have hacc:=Hat.out.stop hA rfl
      have hq20:(q:Int)≤20:=by omega
      have hq19:q≤19:=by omega
      have Hacc:=yH hacc
      have Hq:=yH hq
      have hq1:1≤q:=by have:=H19.out;rw [← hacc] at this;omega
      clear hacc hq
      by_cases hneg:n<0
      · obtain ⟨p,rfl⟩:∃ p,q=p+1:=⟨q - 1,by omega⟩
        have hp:p<20:=by omega
        have hne:((p:Int)+1 == 20)=false:=by rw [beq_eq_false_iff_ne];omega
        have hp20:¬ 20=p:=by omega
        have hpi:(p:Int)≤20:=by omega
        have hconv:=run_convert_bytes_arg (w.alloc (.cells (cellsA (45::Zj acc)) 135)) 39 5 Tryz.underlying39 Tryz.underlying5 w.heap.size p (20 - p) (20 - p) (45::Zj acc) (by have:=Hq.out;simp only [yB,Zl];omega) (fun i hi=>cellsA_cell w _ p (by have:=Hq.out;simp only [yB,Zl];omega) i hi 135) 9 Tryz.underlying9
        have hcell:=cellsA_zero (Zj acc) p (by rw [Zl];exact Hq.out)
        have hpush:=cellsA_push (Zj acc) 45 p (by rw [Zl];exact Hq.out)
        go_wp2
        go_ret
        refine ⟨rets ?_,(Below.refl _ _).alloc (Nat.le_refl _) _⟩
        have e:ntextL n=[45] ++ Zj (dg n.natAbs):=by unfold ntextL;rw [if_pos hneg]
        unfold Yw
        rw [e,Hm.out,← Hacc.out]
        rfl
      · have hp20:¬ 20=q:=by omega
        have hconv:=run_convert_bytes_arg (w.alloc (.cells (cellsA (Zj acc)) 135)) 39 5 Tryz.underlying39 Tryz.underlying5 w.heap.size q (20 - q) (20 - q) (Zj acc) (by have:=Hq.out;rw [Zl];omega) (fun i hi=>cellsA_cell w _ q (by have:=Hq.out;rw [Zl];exact this) i hi 135) 9 Tryz.underlying9
        go_wp2
        go_ret
        refine ⟨rets ?_,(Below.refl _ _).alloc (Nat.le_refl _) _⟩
        have e:ntextL n=[] ++ Zj (dg n.natAbs):=by unfold ntextL;rw [if_neg (by omega)]
        unfold Yw
        rw [e,Hm.out,← Hacc.out]
        rfl
end
section
open Go.ChangeShapes Go.WideShapes Go.ChangeAt Go.RowKit
theorem strOfNums_append (a b:List Int):strOfNums a ++ strOfNums b=strOfNums (a ++ b):=by
 unfold strOfNums
 apply ByteArray.ext
 simp
def strLen:Value→Nat
 | .string b=>b.size
 | _=>0
theorem str_size (acc:List Nat) (h:acc.length≤20) (x:Int):¬ 9223372036854775807<(strOfNums [x]).size+(strOfNums (Zj acc)).size:=by
 rw [strOfNums_size,strOfNums_size,Zl,List.length_singleton];omega
theorem str_cons (d:Nat) (acc:List Nat):strOfNums [((48+d:Nat):Int)] ++ strOfNums (Zj acc)=strOfNums (Zj (d::acc)):=by
 rw [strOfNums_append];rfl
theorem toList_empty (l:List Int):(strOfNums l).toList.isEmpty=l.isEmpty:=by
 rw [ByteArray.toList_eq,strOfNums_data];cases l <;> rfl
theorem digits_any (m:Nat) (w:World) (hm:(m:Int)≤9223372036854775808) :
  Calls Tryz.prog 78 #[.int .u64 (m:Int)] w fun r w'=>r=.returned (.string (strOfNums (Zj (dg m))))∧Below w.heap.size w w':=by
 have hconv:∀ (W:World) (v:Int) (k:Nat),k=W.heap.size→(convert 39 9 (.slice (some ⟨k,0,none⟩) 1 1)).run Tryz.prog (W.alloc (.cells #[.int .u8 v] 5))=.ok (.string (strOfNums [v])) (W.alloc (.cells #[.int .u8 v] 5)):=by
  intro W v k hk
  subst hk
  exact run_convert_bytes_arg (W.alloc (.cells #[.int .u8 v] 5)) 39 5 Tryz.underlying39 Tryz.underlying5 W.heap.size 0 1 1 [v] rfl (fun i hi=>by
   obtain rfl:i=0:=by omega
   rw [World.cell?_alloc_new];rfl) 9 Tryz.underlying9
 have H19:=yH (dg_len_le m 19 (by omega) (by omega))
 go_enter Tryz.func78,Tryz.ntmps78
 go_wp2
 go_loopw [0,3] (fun u s wr=>∃ (acc:List Nat) (v:Nat),u=.int .u64 v∧s=.string (strOfNums (Zj acc))∧(v:Int)≤9223372036854775808∧((acc=[]∧v=m)∨(10≤v∧acc≠[]∧dg v ++ acc=dg m)∨(v=0∧acc=dg m))∧Below w.heap.size w wr) (fun u s _=>(intOf u).toNat+(1 - strLen s))
 case atStart=>exact ⟨[],m,rfl,rfl,hm,Or.inl ⟨rfl,rfl⟩,Below.refl _ _⟩
 case round =>
  obtain ⟨acc,v,rfl,rfl,hv,hc,hb⟩:=hrel
  have hz:=hb.size
  by_cases h3:v=0∧acc=dg m
  · obtain ⟨rfl,rfl⟩:=h3
    clear hc
    have he:(strOfNums (Zj (dg m))).toList.isEmpty=false:=by
     rw [toList_empty]
     have:=dg_ne m
     cases hd:dg m with
     | nil=>exact absurd hd this
     | cons _ _=>rfl
    go_wp2
    go_ret
    exact ⟨rfl,hb⟩
  · have hl:acc.length≤18:=by
      rcases hc with ⟨rfl,_⟩|⟨_,_,h⟩|h
      · simp
      · have h':=congrArg List.length h
        have h4:0<(dg v).length:=List.length_pos_iff.2 (dg_ne v)
        have:=H19.out
        rw [yG] at h'
        omega
      · exact absurd h h3
    have hsz:¬ 9223372036854775807<(strOfNums [48+(v:Int) % 10]).size+(strOfNums (Zj acc)).size:=str_size acc (by omega) _
    have hcons:strOfNums [48+(v:Int) % 10] ++ strOfNums (Zj acc)=strOfNums (Zj (v % 10::acc)):=by
     rw [← str_cons,show (48+(v:Int) % 10)=((48+v % 10:Nat):Int) from by omega]
    have hpre:dg v ++ acc=dg m:=by
     rcases hc with ⟨rfl,rfl⟩|⟨_,_,h⟩|h
     · simp
     · exact h
     · exact absurd h h3
    by_cases h9:v≤9
    · have hacc:acc=[]∧v=m:=by
        rcases hc with h|⟨h,_,_⟩|h
        · exact h
        · omega
        · exact absurd h h3
      obtain ⟨rfl,rfl⟩:=hacc
      have he:(strOfNums (Zj [])).toList.isEmpty=true:=by rw [toList_empty];rfl
      have h10:¬ (0:Int)<(v:Int) / 10:=by omega
      have Hc:=yH (show [v % 10]=dg v from by rw [dg_small (by omega),Nat.mod_eq_of_lt (by omega)])
      clear hc hpre h3 hl
      go_wp2
      go_roundw
      case rel=>exact ⟨[v % 10],v / 10,by go_num,rfl,by omega,Or.inr (Or.inr ⟨by omega,Hc.out⟩),(hb.alloc hz _)⟩
      case measure =>
       go_light
       have e1:strLen (.string (strOfNums (Zj [v % 10])))=1:=(strOfNums_size _).trans rfl
       have e2:strLen (.string (strOfNums (Zj [])))=0:=rfl
       rw [e1,e2]
       simp only [intOf]
       omega
    · have h9':(9:Int)<v:=by omega
      have hpre2:dg (v / 10) ++ (v % 10::acc)=dg m:=by
       rw [← hpre,dg_big (n:=v) (by omega),List.append_assoc];rfl
      have Hp:=yH hpre2
      clear hc hpre hpre2 h3
      by_cases h99:v / 10<10
      · have h0:(0:Int)<(v:Int) / 10:=by omega
        have h1:(v:Int) / 10<10:=by omega
        have hsz2:¬ 9223372036854775807<(strOfNums [48+(v:Int) / 10]).size+(strOfNums (Zj (v % 10::acc))).size:=str_size _ (by rw [yB];omega) _
        have hcons2:strOfNums [48+(v:Int) / 10] ++ strOfNums (Zj (v % 10::acc))=strOfNums (Zj (v / 10::v % 10::acc)):=by
         rw [← str_cons (v / 10),show (48+(v:Int) / 10)=((48+v / 10:Nat):Int) from by omega]
        have Hq:=yH (show v / 10::v % 10::acc=dg m from by rw [← Hp.out,dg_small h99];rfl)
        go_wp2
        go_ret
        exact ⟨by rw [← Hq.out];rfl,(hb.alloc hz _).alloc (by simp;omega) _⟩
      · have h0:(0:Int)<(v:Int) / 10:=by omega
        have h1:(10:Int)≤(v:Int) / 10:=by omega
        go_wp2
        go_roundw
        case rel=>exact ⟨v % 10::acc,v / 10,by go_num,rfl,by omega,Or.inr (Or.inl ⟨by omega,by simp,Hp.out⟩),(hb.alloc hz _)⟩
        case measure =>
         go_light
         have e1:strLen (.string (strOfNums (Zj (v % 10::acc))))=acc.length+1:=(strOfNums_size _).trans (by rw [Zl];rfl)
         rw [e1]
         simp only [intOf]
         omega
theorem rtext_any (n:Int) (w:World) (hn:I64 n) :
  Calls Tryz.prog 34 #[.int .i64 n] w fun r w'=>r=.returned (.string (Yw n))∧Below w.heap.size w w':=by
 have hs:=fun w=>rsize_any n w hn
 have hb:(n.natAbs:Int)≤9223372036854775808:=by unfold I64 at hn;omega
 have hd:=fun w=>digits_any n.natAbs w hb
 have H19:=yH (dg_len19 n hn)
 have Hs:=yH hs
 have Hd:=yH hd
 clear hs hd hn
 by_cases hneg:n<0
 · have hsz:¬ 9223372036854775807<(strOfNums [45]).size+(strOfNums (Zj (dg n.natAbs))).size:=str_size _ (by have:=H19.out;omega) _
   have hv:Yw n=strOfNums [45] ++ strOfNums (Zj (dg n.natAbs)):=by unfold Yw ntextL;rw [strOfNums_append,if_pos hneg]
   have Hv:=yH hv
   have h45:({ data := #[45] }:ByteArray)=strOfNums [45]:=rfl
   clear hv
   go_enter Tryz.func34,Tryz.ntmps34
   go_wp2_with (first|(go_at_call 79;refine (Hs.out _).mono ?_;rintro r w' ⟨rfl,rfl⟩)|(go_at_call 78;refine (Hd.out _).mono ?_;rintro r w' ⟨rfl,hb1⟩))
   go_ret
   exact ⟨by rw [Hv.out];rfl,hb1⟩
 · have hv:Yw n=strOfNums (Zj (dg n.natAbs)):=by unfold Yw ntextL;rw [if_neg hneg];rfl
   have Hv:=yH hv
   clear hv
   go_enter Tryz.func34,Tryz.ntmps34
   go_wp2_with (first|(go_at_call 79;refine (Hs.out _).mono ?_;rintro r w' ⟨rfl,rfl⟩)|(go_at_call 78;refine (Hd.out _).mono ?_;rintro r w' ⟨rfl,hb1⟩))
   go_ret
   exact ⟨by rw [Hv.out];rfl,hb1⟩
end
section
open Go.RowKit
def lst (s:ByteArray):List Nat:=s.data.toList.map UInt8.toNat
theorem lst_length (s:ByteArray):(lst s).length=s.size:=by unfold lst;rw [List.length_map,Array.length_toList];rfl
theorem lst_inj {s t:ByteArray} (h:lst s=lst t):s=t:=by
 unfold lst at h
 have h2:s.data.toList=t.data.toList:=(List.map_inj_right (fun a b e=>UInt8.toNat_inj.1 e)).1 h
 obtain ⟨⟨a⟩⟩:=s
 obtain ⟨⟨b⟩⟩:=t
 simpa using h2
theorem lst_strOfNums (l:List Nat) (h:∀ c ∈ l,c<256):lst (strOfNums (l.map fun c:Nat=>(c:Int)))=l:=by
 unfold lst
 rw [strOfNums_data,List.map_map,List.map_map]
 conv=>rhs;rw [← List.map_id l]
 refine List.map_congr_left fun c hc=>?_
 have:=h c hc
 simp [Nat.mod_eq_of_lt this]
def dig (c:Nat):Bool:=decide (48≤c∧c≤57)
def neg (l:List Nat):Bool:=decide (l.head?=some 45)
def ok (b:Bool) (d:List Nat):Bool:=!d.isEmpty && !(d.head? == some 48 && (b || decide (1<d.length))) && d.all dig
def ds (d:List Nat):List Nat:=d.map fun c=>c - 48
def txt (n:Int):List Nat:=(if n<0 then [45] else []) ++ (dg n.natAbs).map fun d=>48+d
theorem txt_lt (n:Int):∀ c ∈ txt n,c<256:=by
 intro c hc
 unfold txt at hc
 rcases List.mem_append.1 hc with h|h
 · split at h
   · simp at h;omega
   · simp at h
 · simp only [List.mem_map] at h
   obtain ⟨d,hd,rfl⟩:=h
   have:=dg_lt _ d hd
   omega
theorem Xq (n:Int):lst (Yw n)=txt n:=by
 have:ntextL n=(txt n).map fun c:Nat=>(c:Int):=by
  unfold ntextL txt Zj
  rw [List.map_append,List.map_map]
  congr 1
  split <;> rfl
 unfold Yw
 rw [this,lst_strOfNums _ (txt_lt n)]
end
section
open Go.ChangeShapes Go.WideShapes Go.ChangeAt Go.RowKit
end
section
open Go.ChangeShapes Go.WideShapes Go.ChangeAt Go.RowKit
def pl (A:List Nat):List Nat:=A.map fun d=>48+d
end
section
open Go.ChangeShapes Go.WideShapes Go.ChangeAt Go.RowKit
theorem Xl (n:Int) (h:I64 n):(Yw n).size≤20:=by
 rw [← lst_length,Xq]
 unfold txt
 rw [yG,List.length_map]
 have:=dg_len19 n h
 split <;> simp <;> omega
end
section
open Go.ChangeShapes Go.WideShapes Go.ChangeAt Go.RowKit
end
section
open Go.ChangeShapes Go.WideShapes Go.ChangeAt Go.RowKit
end
end Go.Proofs.YtidamcdklgfogaaGreat
