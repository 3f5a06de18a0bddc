import Derived.Test.YtidamcdklgfogaaGreatDoorUab
import Derived.Laws.BytesArg
import Derived.Deep.DeepCutAuto
import Derived.Deep.QuietTactic
import Derived.BigQuiet
set_option linter.unusedVariables false
set_option linter.unusedSimpArgs false
set_option maxRecDepth 100000
set_option maxHeartbeats 4000000
namespace Go.Proofs.YtidamcdklgfogaaGreatDoor
section
theorem snocRec {α:Type} {P:List α->Prop} (nil:P []) (snoc:∀ l d,P l->P (l ++ [d])) (l:List α):P l:=by
 have h:∀ r:List α,P r.reverse:=by
  intro r
  induction r with
  | nil=>exact nil
  | cons a r ih=>rw [List.reverse_cons];exact snoc _ _ ih
 have:=h l.reverse
 rwa [List.reverse_reverse] at this
def dg (n:Nat):List Nat:=if n<10 then [n] else dg (n / 10) ++ [n % 10]
termination_by n
decreasing_by omega
def val (l:List Nat):Nat:=l.foldl (fun a d=>10 * a+d) 0
theorem Zt (l:List Nat) (d:Nat):val (l ++ [d])=10 * val l+d:=by simp [val]
theorem Xd {n:Nat} (h:n<10):dg n=[n]:=by rw [dg,jAa h]
theorem dg_big {n:Nat} (h:10<=n):dg n=dg (n / 10) ++ [n % 10]:=by rw [dg,jAb (by omega)]
theorem val_dg (n:Nat):val (dg n)=n:=by
 induction n using Nat.strongRecOn with
 | _ n ih =>
   by_cases h:n<10
   . rw [Xd h];simp [val]
   . rw [dg_big (by omega),Zt,ih (n / 10) (by omega)];omega
theorem dg_lt (n:Nat):∀ d ∈ dg n,d<10:=by
 induction n using Nat.strongRecOn with
 | _ n ih =>
   by_cases h:n<10
   . rw [Xd h];simpa using h
   . rw [dg_big (by omega)]
     intro d hd;rcases jIa.1 hd with h1|h1
     . exact ih (n / 10) (by omega) d h1
     . simp at h1;omega
theorem dg_ne (n:Nat):dg n≠[]:=by
 by_cases h:n<10
 . rw [Xd h];simp
 . rw [dg_big (by omega)];simp
def Canon (l:List Nat):Prop:=l≠[]/\(∀ d ∈ l,d<10)/\(l=[0]\/l.head?≠some 0)
theorem dg_head (n:Nat) (h:0<n):(dg n).head?≠some 0:=by
 induction n using Nat.strongRecOn with
 | _ n ih =>
   by_cases h1:n<10
   . rw [Xd h1];simp;omega
   . rw [dg_big (by omega)]
     have:=ih (n / 10) (by omega) (by omega);cases hd:dg (n / 10) with
     | nil=>exact absurd hd (dg_ne _)
     | cons a l=>rw [hd] at this;simpa using this
theorem val_pos (l:List Nat) (hne:l≠[]) (h:l.head?≠some 0):0<val l:=by
 induction l using snocRec with
 | nil=>exact absurd rfl hne
 | snoc l d ih =>
   rw [Zt];by_cases hl:l=[]
   . subst hl;simp at h;simp [val];omega
   . have:l.head?≠some 0:=by
       cases l with
       | nil=>exact absurd rfl hl
       | cons a l=>simpa using h
     have:=ih hl this;omega
theorem dg_val (l:List Nat) (h:Canon l):dg (val l)=l:=by
 obtain ⟨hne,hlt,hh⟩:=h;rcases hh with rfl|hh
 . rw [show val [0]=0 from rfl,Xd (by omega)]
 induction l using snocRec with
 | nil=>exact absurd rfl hne
 | snoc l d ih =>
   have hd:d<10:=hlt d (by simp);by_cases hl:l=[]
   . subst hl;simp only [List.nil_append,val,List.foldl];rw [Xd (by omega)];simp
   . have hh':l.head?≠some 0:=by
       cases l with
       | nil=>exact absurd rfl hl
       | cons a l=>simpa using hh
     have hp:=val_pos l hl hh';have hi:=ih hl (fun x hx=>hlt x (by simp [hx])) hh';rw [Zt,dg_big (by omega),show (10 * val l+d) / 10=val l by omega,show (10 * val l+d) % 10=d by omega,hi]
theorem val_lt_pow (l:List Nat) (h:∀ d ∈ l,d<10):val l<10 ^ l.length:=by
 induction l using snocRec with
 | nil=>simp [val]
 | snoc l d ih =>
   have:=ih (fun x hx=>h x (by simp [hx]));have hd:d<10:=h d (by simp);rw [Zt,yG,List.length_singleton,Nat.pow_succ];omega
theorem pow_le_val (l:List Nat) (hne:l≠[]) (h:l.head?≠some 0):10 ^ (l.length - 1)<=val l:=by
 induction l using snocRec with
 | nil=>exact absurd rfl hne
 | snoc l d ih =>
   rw [Zt];by_cases hl:l=[]
   . subst hl
     have:=val_pos ([] ++ [d]) (by simp) h;rw [Zt] at this;simp only [List.nil_append,List.length_singleton,Nat.sub_self,Nat.pow_zero];omega
   . have hh':l.head?≠some 0:=by
       cases l with
       | nil=>exact absurd rfl hl
       | cons a l=>simpa using h
     have hi:=ih hl hh';have hlen:0<l.length:=kR.2 hl;rw [yG,List.length_singleton,show l.length+1 - 1=(l.length - 1)+1 by omega,Nat.pow_succ];omega
theorem val_cons (a:Nat) (l:List Nat):val (a::l)=a * 10 ^ l.length+val l:=by
 induction l using snocRec with
 | nil=>simp [val]
 | snoc l d ih =>
   rw [<- List.cons_append,Zt,ih,Zt,yG,List.length_singleton,Nat.pow_succ,Nat.mul_add,<- Nat.mul_assoc,Nat.mul_comm 10 a,Nat.mul_assoc a 10,Nat.mul_comm 10 (10 ^ _)];omega
theorem val_lt_iff (a b:List Nat) (hl:a.length=b.length) (ha:∀ d ∈ a,d<10) (hb:∀ d ∈ b,d<10) (i:Nat) (hi:i<a.length)
  (hpre:a.take i=b.take i) (hne:a.getD i 0≠b.getD i 0):val a<val b↔a.getD i 0<b.getD i 0:=by
 induction i generalizing a b with
 | zero =>
   cases a with
   | nil=>simp at hi
   | cons x a =>
     cases b with
     | nil=>simp at hl
     | cons y b =>
       simp only [kYb] at hne ⊢;have h1:=val_lt_pow a (fun d hd=>ha d (by simp [hd]));have h2:=val_lt_pow b (fun d hd=>hb d (by simp [hd]));have hl':a.length=b.length:=by simpa using hl
       rw [val_cons,val_cons,hl'];rw [hl'] at h1;generalize 10 ^ b.length=p at *
       constructor
       . intro h
         rcases jY x y with h3|h3
         . exact h3
         . have h4:y+1<=x:=by omega
           have:=jU p h4;rw [kFb,Nat.one_mul] at this;generalize x * p=u at *
           generalize y * p=v at *
           omega
       . intro h
         have:=jU p (show x+1<=y from h);rw [kFb,Nat.one_mul] at this;generalize x * p=u at *
         generalize y * p=v at *
         omega
 | succ i ih =>
   cases a with
   | nil=>simp at hi
   | cons x a =>
     cases b with
     | nil=>simp at hl
     | cons y b =>
       simp only [List.take_succ_cons,kHb] at hpre;simp only [kYa] at hne ⊢;have hl':a.length=b.length:=by simpa using hl
       rw [val_cons,val_cons,hl',hpre.1,Nat.add_lt_add_iff_left];exact ih a b hl' (fun d hd=>ha d (by simp [hd])) (fun d hd=>hb d (by simp [hd])) (by simpa using hi) hpre.2 hne
theorem len_lt_val {a b:List Nat} (ha:∀ d ∈ a,d<10) (hb:Canon b) (h:a.length<b.length):val a<val b\/(a=[] ):=by
 by_cases he:a=[]
 . exact Or.inr he
 . left
   have h1:=val_lt_pow a ha;obtain ⟨hbn,hbl,hbh⟩:=hb;rcases hbh with rfl|hbh
   . have:0<a.length:=kR.2 he
     rw [List.length_singleton] at h;omega
   . have h2:=pow_le_val b hbn hbh
     have h3:10 ^ a.length<=10 ^ (b.length - 1):=kPb (by omega) (by omega);omega
def bytes (l:List Nat):List UInt8:=l.map fun d=>UInt8.ofNat (48+d)
theorem dg_len_le (n k:Nat) (h:n<10 ^ k) (hk:0<k):(dg n).length<=k:=by
 induction k generalizing n with
 | zero=>omega
 | succ k ih =>
   by_cases h1:n<10
   . rw [Xd h1];simp
   . rw [dg_big (by omega),yG,List.length_singleton]
     have hk':0<k:=by
      rcases kMb k with rfl|hk'
      . simp at h;omega
      . exact hk'
     have:=ih (n / 10) (by rw [Nat.pow_succ] at h;omega) hk';omega
end
section
open Go.ChangeShapes Go.WideShapes Go.ChangeAt Go.RowKit
def I64 (a:Int):Prop := -9223372036854775808<=a/\a<=9223372036854775807
theorem reti {k:IntKind} {a b:Int} (h:a=b):Ending.returned (.int k a)=.returned (.int k b):=by rw [h]
theorem size_any (n:Int) (w:World) (hn:I64 n) :
  Calls Tryz.prog 70 #[.int .i64 n] w fun r w'=>r=.returned (.int .u64 (n.natAbs:Int))/\w=w':=by
 by_cases h:n<0
 . go_enter Tryz.func70,Tryz.ntmps70
   go_wp2
   go_ret;refine ⟨reti ?_,rfl⟩
   go_light
   unfold I64 at hn;simp only [IntKind.wrap_u64];omega
 . go_enter Tryz.func70,Tryz.ntmps70
   go_wp2
   go_ret;refine ⟨reti ?_,rfl⟩
   go_light
   unfold I64 at hn;simp only [IntKind.wrap_u64];omega
theorem rsize_any (n:Int) (w:World) (hn:I64 n) :
  Calls Tryz.prog 149 #[.int .i64 n] w fun r w'=>r=.returned (.int .u64 (n.natAbs:Int))/\w=w':=by
 by_cases h:n<0
 . go_enter Tryz.func149,Tryz.ntmps149
   go_wp2
   go_ret;refine ⟨reti ?_,rfl⟩
   go_light
   unfold I64 at hn;simp only [IntKind.wrap_u64,wrap64];omega
 . go_enter Tryz.func149,Tryz.ntmps149
   go_wp2
   go_ret;refine ⟨reti ?_,rfl⟩
   go_light
   unfold I64 at hn;simp only [IntKind.wrap_u64];omega
end
section
open Go.ChangeShapes Go.WideShapes Go.ChangeAt Go.RowKit
def Ku (l:List Nat):List Int:=l.map fun d=>((48+d:Nat):Int)
theorem Kv (l:List Nat):(Ku l).length=l.length:=by simp [Ku]
def ntextL (n:Int):List Int:=(if n<0 then [45] else []) ++ Ku (dg n.natAbs)
def textS (n:Int):ByteArray:=strOfNums (ntextL n)
theorem dg_len19 (n:Int) (h:I64 n):(dg n.natAbs).length<=19:=dg_len_le _ _ (by unfold I64 at h;omega) (by omega)
def At (m u:Nat) (acc:List Nat):Prop:=(acc=[]/\u=m)\/(acc≠[]/\(0<u->dg u ++ acc=dg m)/\(u=0->acc=dg m))
theorem At.step {m u:Nat} {acc:List Nat} (h:At m u acc) (hgo:acc=[]\/0<u):At m (u / 10) (u % 10::acc):=by
 right
 refine ⟨by simp,?_,?_⟩
 . intro hu
   rcases h with ⟨rfl,rfl⟩|⟨h1,h2,_⟩
   . rw [dg_big (n:=u) (by omega)]
   . rw [<- h2 (by omega),dg_big (n:=u) (by omega),jFb];rfl
 . intro hu
   rcases h with ⟨rfl,rfl⟩|⟨h1,h2,_⟩
   . rw [Xd (n:=u) (by omega),kAb (by omega)]
   . have h3:0<u:=by rcases hgo with h|h;exact absurd h h1;exact h
     rw [<- h2 h3,Xd (n:=u) (by omega),kAb (by omega)];rfl
theorem At.stop {m u:Nat} {acc:List Nat} (h:At m u acc) (h1:acc≠[]) (h2:u=0):acc=dg m:=by
 rcases h with ⟨h,_⟩|⟨_,_,h⟩
 . exact absurd h h1
 . exact h h2
theorem At.len {m u:Nat} {acc:List Nat} (h:At m u acc) (hgo:acc=[]\/0<u) (hm:(dg m).length<=19):acc.length<=18:=by
 rcases h with ⟨rfl,_⟩|⟨h1,h2,_⟩
 . simp
 . rcases hgo with h|h
   . exact absurd h h1
   . have:=h2 h
     have h3:=jQb List.length this;have h4:0<(dg u).length:=kR.2 (dg_ne u);rw [yG] at h3;omega
def cellsA (acc:List Int):Array Value:=(List.replicate (20 - acc.length) (Value.int .u8 0) ++ acc.map (Value.int .u8)).toArray
theorem cellsA_get (acc:List Int) (i:Nat) (h:i<acc.length) (hl:acc.length<=20):(cellsA acc)[20 - acc.length+i]?=some (.int .u8 (acc.getD i 0)):=by
 simp only [cellsA,List.getElem?_toArray];rw [jXb (by simp),kGb,show 20 - acc.length+i - (20 - acc.length)=i by omega];simp [h]
theorem cellsA_push (acc:List Int) (d:Int) (q:Nat) (h:q+1+acc.length=20):(cellsA acc).setIfInBounds q (.int .u8 d)=cellsA (d::acc):=by
 have h1:20 - acc.length=q+1:=by omega
 have h2:20 - (acc.length+1)=q:=by omega
 simp only [cellsA,yB,h1,h2,jD];apply Array.ext';simp only [Array.toList_setIfInBounds];rw [List.replicate_succ',jFb,List.set_append_right _ _ (by simp)];simp
theorem cellsA_zero (acc:List Int) (q:Nat) (h:q+1+acc.length=20):(cellsA acc)[q]?=some (.int .u8 0):=by
 simp only [cellsA,List.getElem?_toArray];rw [jPb (by rw [kGb];omega),kSb,jAa (by omega)]
theorem rets {a b:ByteArray} (h:b=a):Ending.returned (.string a)=.returned (.string b):=by rw [h]
theorem cellsA_cell (w:World) (acc:List Int) (q:Nat) (h:q+acc.length=20) (i:Nat) (hi:i<20 - q) (t:TypeId):(w.alloc (.cells (cellsA acc) t)).cell? ⟨w.heap.size,q+i,none⟩=some (.int .u8 (acc.getD i 0)):=by
 rw [World.cell?_alloc_new]
 have:=cellsA_get acc i (by omega) (by omega)
 rwa [show 20 - acc.length=q by omega] at this
theorem text_any (n:Int) (w:World) (hn:I64 n) :
  Calls Tryz.prog 28 #[.int .i64 n] w fun r w'=>r=.returned (.string (textS n))/\Below w.heap.size w w':=by
 have h19:=dg_len19 n hn;have hs:=fun w=>size_any n w hn
 have Hs:=yH hs;have hb:(n.natAbs:Int)<=9223372036854775808:=by unfold I64 at hn;omega
 clear hs hn;generalize hm:n.natAbs=m at *
 have Hm:=yH hm;have H19:=yH h19;clear hm h19;go_enter Tryz.func28,Tryz.ntmps28;go_wp2_with (go_at_call 70;refine (Hs.out _).mono ?_;rintro r w' ⟨rfl,rfl⟩)
 go_loopw [4,5] (fun p u wr=>∃ (acc:List Nat) (q v:Nat),q+acc.length=20/\p=.int .i64 q/\u=.int .u64 v/\(v:Int)<=9223372036854775808/\At m v acc/\wr=w.alloc (.cells (cellsA (Ku acc)) 128)) (fun p _ _=>(intOf p).toNat)
 case atStart=>exact ⟨[],20,m,rfl,rfl,rfl,hb,Or.inl ⟨rfl,rfl⟩,rfl⟩
 case round =>
  obtain ⟨acc,q,v,hq,rfl,rfl,hv,hat,rfl⟩:=hrel;have Hat:=yH hat;clear hat;by_cases hA:acc=[]
  . subst hA
    obtain rfl:q=20:=by simpa using hq
    have hst:=Hat.out.step (Or.inl rfl);have Hst:=yH hst;have hpush:=cellsA_push (Ku []) ((48+v % 10:Nat):Int) 19 rfl;have hc0:(cellsA (Ku []))[19]?=some (.int .u8 0):=rfl;have Hpush:=yH hpush;clear hst hq hpush;go_wp2
    go_roundw
    case rel=>exact ⟨[v % 10],19,v / 10,rfl,rfl,by go_num,by omega,Hst.out,by rw [show (48+(v:Int) % 10)=((48+v % 10:Nat):Int) from by omega,Hpush.out];rfl⟩
    case measure=>simp [intOf]
  . have ha1:1<=acc.length:=by cases acc with|nil=>exact absurd rfl hA|cons _ _=>simp
    by_cases hv0:0<v
    . have hl:=Hat.out.len (Or.inr hv0) H19.out
      obtain ⟨p,rfl⟩:∃ p,q=p+1:=⟨q - 1,by omega⟩;have hp:p<20:=by omega
      have hne:((p:Int)+1 == 20)=false:=by rw [jGa];omega
      have hcell:=cellsA_zero (Ku acc) p (by rw [Kv];exact hq);have hst:=Hat.out.step (Or.inr hv0);have Hst:=yH hst;have hpush:=cellsA_push (Ku acc) ((48+v % 10:Nat):Int) p (by rw [Kv];exact hq);have Hpush:=yH hpush;have Hq:=yH hq;clear hq hst hpush;go_wp2
      go_roundw
      case rel=>exact ⟨v % 10::acc,p,v / 10,by have:=Hq.out;rw [yB];omega,rfl,by go_num,by omega,Hst.out,by rw [show (48+(v:Int) % 10)=((48+v % 10:Nat):Int) from by omega,Hpush.out];rfl⟩
      case measure=>simp [intOf]
    . obtain rfl:v=0:=by omega
      have hne:((q:Int) == 20)=false:=by rw [jGa];omega
      have hacc:=Hat.out.stop hA rfl;have hq20:(q:Int)<=20:=by omega
      have hq19:q<=19:=by omega
      have Hacc:=yH hacc;have Hq:=yH hq;have hq1:1<=q:=by have:=H19.out;rw [<- hacc] at this;omega
      clear hacc hq;by_cases hneg:n<0
      . obtain ⟨p,rfl⟩:∃ p,q=p+1:=⟨q - 1,by omega⟩
        have hp:p<20:=by omega
        have hne:((p:Int)+1 == 20)=false:=by rw [jGa];omega
        have hp20:¬ 20=p:=by omega
        have hpi:(p:Int)<=20:=by omega
        have hconv:=run_convert_bytes_arg (w.alloc (.cells (cellsA (45::Ku acc)) 128)) 68 5 Tryz.underlying68 Tryz.underlying5 w.heap.size p (20 - p) (20 - p) (45::Ku acc) (by have:=Hq.out;simp only [yB,Kv];omega) (fun i hi=>cellsA_cell w _ p (by have:=Hq.out;simp only [yB,Kv];omega) i hi 128) 9 Tryz.underlying9;have hcell:=cellsA_zero (Ku acc) p (by rw [Kv];exact Hq.out);have hpush:=cellsA_push (Ku acc) 45 p (by rw [Kv];exact Hq.out);go_wp2
        go_ret;refine ⟨rets ?_,(Below.refl _ _).alloc (jBb _) _⟩;have e:ntextL n=[45] ++ Ku (dg n.natAbs):=by unfold ntextL;rw [jAa hneg]
        unfold textS;rw [e,Hm.out,<- Hacc.out];rfl
      . have hp20:¬ 20=q:=by omega
        have hconv:=run_convert_bytes_arg (w.alloc (.cells (cellsA (Ku acc)) 128)) 68 5 Tryz.underlying68 Tryz.underlying5 w.heap.size q (20 - q) (20 - q) (Ku acc) (by have:=Hq.out;rw [Kv];omega) (fun i hi=>cellsA_cell w _ q (by have:=Hq.out;rw [Kv];exact this) i hi 128) 9 Tryz.underlying9;go_wp2
        go_ret;refine ⟨rets ?_,(Below.refl _ _).alloc (jBb _) _⟩;have e:ntextL n=[] ++ Ku (dg n.natAbs):=by unfold ntextL;rw [jAb (by omega)]
        unfold textS;rw [e,Hm.out,<- Hacc.out];rfl
end
section
open Go.ChangeShapes Go.WideShapes Go.ChangeAt Go.RowKit
theorem strOfNums_append (a b:List Int):strOfNums a ++ strOfNums b=strOfNums (a ++ b):=by
 unfold strOfNums;apply ByteArray.ext;simp
def strLen:Value->Nat
 | .string b=>b.size
 | _=>0
theorem str_size (acc:List Nat) (h:acc.length<=20) (x:Int):¬ 9223372036854775807<(strOfNums [x]).size+(strOfNums (Ku acc)).size:=by
 rw [strOfNums_size,strOfNums_size,Kv,List.length_singleton];omega
theorem str_cons (d:Nat) (acc:List Nat):strOfNums [((48+d:Nat):Int)] ++ strOfNums (Ku acc)=strOfNums (Ku (d::acc)):=by
 rw [strOfNums_append];rfl
theorem toList_empty (l:List Int):(strOfNums l).toList.isEmpty=l.isEmpty:=by
 rw [ByteArray.toList_eq,strOfNums_data];cases l <;> rfl
theorem digits_any (m:Nat) (w:World) (hm:(m:Int)<=9223372036854775808) :
  Calls Tryz.prog 148 #[.int .u64 (m:Int)] w fun r w'=>r=.returned (.string (strOfNums (Ku (dg m))))/\Below w.heap.size w w':=by
 have hconv:∀ (W:World) (v:Int) (k:Nat),k=W.heap.size->(convert 68 9 (.slice (some ⟨k,0,none⟩) 1 1)).run Tryz.prog (W.alloc (.cells #[.int .u8 v] 5))=.ok (.string (strOfNums [v])) (W.alloc (.cells #[.int .u8 v] 5)):=by
  intro W v k hk;subst hk;exact run_convert_bytes_arg (W.alloc (.cells #[.int .u8 v] 5)) 68 5 Tryz.underlying68 Tryz.underlying5 W.heap.size 0 1 1 [v] rfl (fun i hi=>by
   obtain rfl:i=0:=by omega
   rw [World.cell?_alloc_new];rfl) 9 Tryz.underlying9
 have H19:=yH (dg_len_le m 19 (by omega) (by omega));go_enter Tryz.func148,Tryz.ntmps148;go_wp2
 go_loopw [0,3] (fun u s wr=>∃ (acc:List Nat) (v:Nat),u=.int .u64 v/\s=.string (strOfNums (Ku acc))/\(v:Int)<=9223372036854775808/\((acc=[]/\v=m)\/(10<=v/\acc≠[]/\dg v ++ acc=dg m)\/(v=0/\acc=dg m))/\Below w.heap.size w wr) (fun u s _=>(intOf u).toNat+(1 - strLen s))
 case atStart=>exact ⟨[],m,rfl,rfl,hm,Or.inl ⟨rfl,rfl⟩,Below.refl _ _⟩
 case round =>
  obtain ⟨acc,v,rfl,rfl,hv,hc,hb⟩:=hrel;have hz:=hb.size;by_cases h3:v=0/\acc=dg m
  . obtain ⟨rfl,rfl⟩:=h3
    clear hc;have he:(strOfNums (Ku (dg m))).toList.isEmpty=false:=by
     rw [toList_empty]
     have:=dg_ne m;cases hd:dg m with
     | nil=>exact absurd hd this
     | cons _ _=>rfl
    go_wp2
    go_ret;exact ⟨rfl,hb⟩
  . have hl:acc.length<=18:=by
      rcases hc with ⟨rfl,_⟩|⟨_,_,h⟩|h
      . simp
      . have h':=jQb List.length h
        have h4:0<(dg v).length:=kR.2 (dg_ne v)
        have:=H19.out;rw [yG] at h';omega
      . exact absurd h h3
    have hsz:¬ 9223372036854775807<(strOfNums [48+(v:Int) % 10]).size+(strOfNums (Ku acc)).size:=str_size acc (by omega) _;have hcons:strOfNums [48+(v:Int) % 10] ++ strOfNums (Ku acc)=strOfNums (Ku (v % 10::acc)):=by
     rw [<- str_cons,show (48+(v:Int) % 10)=((48+v % 10:Nat):Int) from by omega]
    have hpre:dg v ++ acc=dg m:=by
     rcases hc with ⟨rfl,rfl⟩|⟨_,_,h⟩|h
     . simp
     . exact h
     . exact absurd h h3
    by_cases h9:v<=9
    . have hacc:acc=[]/\v=m:=by
        rcases hc with h|⟨h,_,_⟩|h
        . exact h
        . omega
        . exact absurd h h3
      obtain ⟨rfl,rfl⟩:=hacc;have he:(strOfNums (Ku [])).toList.isEmpty=true:=by rw [toList_empty];rfl
      have h10:¬ (0:Int)<(v:Int) / 10:=by omega
      have Hc:=yH (show [v % 10]=dg v from by rw [Xd (by omega),kAb (by omega)]);clear hc hpre h3 hl;go_wp2
      go_roundw
      case rel=>exact ⟨[v % 10],v / 10,by go_num,rfl,by omega,Or.inr (Or.inr ⟨by omega,Hc.out⟩),(hb.alloc hz _)⟩
      case measure =>
       go_light
       have e1:strLen (.string (strOfNums (Ku [v % 10])))=1:=(strOfNums_size _).trans rfl;have e2:strLen (.string (strOfNums (Ku [])))=0:=rfl;rw [e1,e2];simp only [intOf];omega
    . have h9':(9:Int)<v:=by omega
      have hpre2:dg (v / 10) ++ (v % 10::acc)=dg m:=by
       rw [<- hpre,dg_big (n:=v) (by omega),jFb];rfl
      have Hp:=yH hpre2;clear hc hpre hpre2 h3;by_cases h99:v / 10<10
      . have h0:(0:Int)<(v:Int) / 10:=by omega
        have h1:(v:Int) / 10<10:=by omega
        have hsz2:¬ 9223372036854775807<(strOfNums [48+(v:Int) / 10]).size+(strOfNums (Ku (v % 10::acc))).size:=str_size _ (by rw [yB];omega) _;have hcons2:strOfNums [48+(v:Int) / 10] ++ strOfNums (Ku (v % 10::acc))=strOfNums (Ku (v / 10::v % 10::acc)):=by
         rw [<- str_cons (v / 10),show (48+(v:Int) / 10)=((48+v / 10:Nat):Int) from by omega]
        have Hq:=yH (show v / 10::v % 10::acc=dg m from by rw [<- Hp.out,Xd h99];rfl);go_wp2
        go_ret;exact ⟨by rw [<- Hq.out];rfl,(hb.alloc hz _).alloc (by simp;omega) _⟩
      . have h0:(0:Int)<(v:Int) / 10:=by omega
        have h1:(10:Int)<=(v:Int) / 10:=by omega
        go_wp2
        go_roundw
        case rel=>exact ⟨v % 10::acc,v / 10,by go_num,rfl,by omega,Or.inr (Or.inl ⟨by omega,by simp,Hp.out⟩),(hb.alloc hz _)⟩
        case measure =>
         go_light
         have e1:strLen (.string (strOfNums (Ku (v % 10::acc))))=acc.length+1:=(strOfNums_size _).trans (by rw [Kv];rfl);rw [e1];simp only [intOf];omega
theorem rtext_any (n:Int) (w:World) (hn:I64 n) :
  Calls Tryz.prog 118 #[.int .i64 n] w fun r w'=>r=.returned (.string (textS n))/\Below w.heap.size w w':=by
 have hs:=fun w=>rsize_any n w hn
 have hb:(n.natAbs:Int)<=9223372036854775808:=by unfold I64 at hn;omega
 have hd:=fun w=>digits_any n.natAbs w hb
 have H19:=yH (dg_len19 n hn);have Hs:=yH hs;have Hd:=yH hd;clear hs hd hn;by_cases hneg:n<0
 . have hsz:¬ 9223372036854775807<(strOfNums [45]).size+(strOfNums (Ku (dg n.natAbs))).size:=str_size _ (by have:=H19.out;omega) _
   have hv:textS n=strOfNums [45] ++ strOfNums (Ku (dg n.natAbs)):=by unfold textS ntextL;rw [strOfNums_append,jAa hneg]
   have Hv:=yH hv;have h45:({ data := #[45] }:ByteArray)=strOfNums [45]:=rfl;clear hv;go_enter Tryz.func118,Tryz.ntmps118;go_wp2_with (first|(go_at_call 149;refine (Hs.out _).mono ?_;rintro r w' ⟨rfl,rfl⟩)|(go_at_call 148;refine (Hd.out _).mono ?_;rintro r w' ⟨rfl,hb1⟩))
   go_ret;exact ⟨by rw [Hv.out];rfl,hb1⟩
 . have hv:textS n=strOfNums (Ku (dg n.natAbs)):=by unfold textS ntextL;rw [jAb hneg];rfl
   have Hv:=yH hv;clear hv;go_enter Tryz.func118,Tryz.ntmps118;go_wp2_with (first|(go_at_call 149;refine (Hs.out _).mono ?_;rintro r w' ⟨rfl,rfl⟩)|(go_at_call 148;refine (Hd.out _).mono ?_;rintro r w' ⟨rfl,hb1⟩))
   go_ret;exact ⟨by rw [Hv.out];rfl,hb1⟩
end
section
open Go.RowKit
def lst (s:ByteArray):List Nat:=s.data.toList.map UInt8.toNat
theorem Qi (s:ByteArray):(lst s).length=s.size:=by unfold lst;rw [jHb,Array.length_toList];rfl
theorem lst_get (s:ByteArray) (k:Nat) (h:k<s.size):(lst s)[k]?=some (s[k].toNat):=by
 simp only [lst,jNb];rw [yA (by rw [Array.length_toList];exact h)];rfl
theorem Zk (s:ByteArray):lst s=s.toList.map UInt8.toNat:=by rw [ByteArray.toList_eq];rfl
theorem lst_tail (s:ByteArray):lst (s.extract 1 s.size)=(lst s).tail:=by
 unfold lst;rw [<- List.map_tail];congr 1
 rw [ByteArray.data_extract,Array.toList_extract];rw [List.extract_eq_take_drop,List.drop_one,jFa (by rw [kB,Array.length_toList];exact jBb _)]
theorem lst_inj {s t:ByteArray} (h:lst s=lst t):s=t:=by
 unfold lst at h;have h2:s.data.toList=t.data.toList:=(List.map_inj_right (fun a b e=>UInt8.toNat_inj.1 e)).1 h;obtain ⟨⟨a⟩⟩:=s;obtain ⟨⟨b⟩⟩:=t
 simpa using h2
theorem lst_strOfNums (l:List Nat) (h:∀ c ∈ l,c<256):lst (strOfNums (l.map fun c:Nat=>(c:Int)))=l:=by
 unfold lst;rw [strOfNums_data,jW,jW];conv=>rhs;rw [<- List.map_id l]
 refine jWb fun c hc=>?_
 have:=h c hc;simp [kAb this]
def dig (c:Nat):Bool:=decide (48<=c/\c<=57)
def Kd (l:List Nat):List Nat:=if l.head?=some 45 then l.tail else l
def neg (l:List Nat):Bool:=decide (l.head?=some 45)
def okD (d:List Nat):Bool:=!d.isEmpty && d.head? != some 48 && d.all dig
def Zb (l:List Nat):Bool:=decide (l=[48]) || okD (Kd l)
def ok (b:Bool) (d:List Nat):Bool:=!d.isEmpty && !(d.head? == some 48 && (b || decide (1<d.length))) && d.all dig
theorem ok_form (l:List Nat):ok (neg l) (Kd l)=Zb l:=by
 by_cases h:l=[48]
 . subst h;rfl
 . unfold Zb
   rw [jJb h,Bool.false_or];unfold ok okD;cases hd:Kd l with
   | nil=>rfl
   | cons a d =>
     by_cases ha:a=48
     . subst ha
       have h1:(neg l || decide (1<(48::d).length))=true:=by
        unfold neg;unfold Kd at hd;split at hd
        . rename_i h1;rw [h1];rfl
        . rename_i h1
          subst hd;cases d with
          | nil=>exact absurd rfl h
          | cons x d=>simp
       have e1:((48::d).head? == some 48)=true:=rfl;have e2:((48::d).head? != some 48)=false:=rfl;rw [e1,e2,h1];simp
     . have e1:((a::d).head? == some 48)=false:=by simp [ha]
       have e2:((a::d).head? != some 48)=true:=by rw [List.head?_cons,kWa];simp [ha]
       rw [e1,e2];simp
def ds (d:List Nat):List Nat:=d.map fun c=>c - 48
theorem ds_lt (d:List Nat) (h:d.all dig=true):∀ x ∈ ds d,x<10:=by
 intro x hx;simp only [ds,jF] at hx;obtain ⟨c,hc,rfl⟩:=hx
 have:=jLa.1 h c hc;simp only [dig,jJ] at this;omega
theorem ok_parts {b:Bool} {d:List Nat} (h:ok b d=true):d≠[]/\d.all dig=true/\(d.head?=some 48->b=false/\d=[48]):=by
 unfold ok at h;simp only [jEa,jWa,List.isEmpty_eq_false_iff] at h;obtain ⟨⟨h1,h2⟩,h3⟩:=h;refine ⟨h1,h3,fun h4=>?_⟩;rw [h4] at h2;simp only [jPa,Bool.true_and,Bool.or_eq_false_iff,jI] at h2;refine ⟨h2.1,?_⟩;cases d with
 | nil=>exact absurd rfl h1
 | cons a d =>
   have:d=[]:=by
    cases d with
    | nil=>rfl
    | cons x d=>simp at h2
   subst this
   simpa using h4
theorem ok_canon {b:Bool} {d:List Nat} (h:ok b d=true):Canon (ds d):=by
 obtain ⟨h1,h2,h3⟩:=ok_parts h;refine ⟨by simpa [ds] using h1,ds_lt d h2,?_⟩;cases d with
 | nil=>exact absurd rfl h1
 | cons a d =>
   by_cases ha:a=48
   . left
     have:=(h3 (by simp [ha])).2;rw [this];rfl
   . right
     have hd:=jLa.1 h2 a (by simp);simp only [dig,jJ] at hd;simp [ds];omega
theorem ds_back (d:List Nat) (h:d.all dig=true):(ds d).map (fun x=>48+x)=d:=by
 unfold ds;rw [jW];conv=>rhs;rw [<- List.map_id d]
 refine jWb fun c hc=>?_
 have:=jLa.1 h c hc;simp only [dig,jJ] at this;simp;omega
def Za (l:List Nat):Int:=if neg l=true then -(val (ds (Kd l)):Int) else (val (ds (Kd l)):Int)
theorem neg_pos {l:List Nat} (h:Zb l=true) (hn:neg l=true):0<val (ds (Kd l)):=by
 rw [<- ok_form] at h;have hc:=ok_canon h;have h3:=(ok_parts h).2.2;obtain ⟨hne,_,hh⟩:=hc;refine val_pos _ hne ?_;rcases hh with hh|hh
 . intro _
   have:Kd l=[48]:=by
    have hb:=ds_back (Kd l) (ok_parts h).2.1;rw [hh] at hb;exact hb.symm
   have:=(h3 (by rw [this];rfl)).1;rw [hn] at this;cases this
 . exact hh
def txt (n:Int):List Nat:=(if n<0 then [45] else []) ++ (dg n.natAbs).map fun d=>48+d
theorem txt_lt (n:Int):∀ c ∈ txt n,c<256:=by
 intro c hc;unfold txt at hc;rcases jIa.1 hc with h|h
 . split at h
   . simp at h;omega
   . simp at h
 . simp only [jF] at h
   obtain ⟨d,hd,rfl⟩:=h
   have:=dg_lt _ d hd;omega
theorem Xo (n:Int):lst (textS n)=txt n:=by
 have:ntextL n=(txt n).map fun c:Nat=>(c:Int):=by
  unfold ntextL txt Ku;rw [jH,jW];congr 1
  split <;> rfl
 unfold textS;rw [this,lst_strOfNums _ (txt_lt n)]
theorem dig_all (l:List Nat) (h:∀ d ∈ l,d<10):(l.map fun d=>48+d).all dig=true:=by
 rw [jLa];intro c hc;simp only [jF] at hc;obtain ⟨d,hd,rfl⟩:=hc
 have:=h d hd;simp only [dig,jJ];omega
theorem head_not45 (l:List Nat) (h:∀ d ∈ l,d<10):(l.map fun d=>48+d).head?≠some 45:=by
 cases l with
 | nil=>simp
 | cons a l=>simp;omega
theorem txt_neg (n:Int):neg (txt n)=decide (n<0):=by
 unfold neg txt;by_cases h:n<0
 . rw [jAa h,jOa h];rfl
 . rw [jAb h,jJb h,List.nil_append,jJb (head_not45 _ (dg_lt _))]
theorem txt_strip (n:Int):Kd (txt n)=(dg n.natAbs).map fun d=>48+d:=by
 unfold Kd txt;by_cases h:n<0
 . rw [jAa h];rfl
 . rw [jAb h,List.nil_append,jAb (head_not45 _ (dg_lt _))]
theorem ds_map (l:List Nat):ds (l.map fun d=>48+d)=l:=by
 unfold ds;rw [jW];conv=>rhs;rw [<- List.map_id l]
 exact jWb fun c _=>by simp
theorem txt_form (n:Int):Zb (txt n)=true:=by
 rw [<- ok_form,txt_neg,txt_strip];unfold ok;have h1:((dg n.natAbs).map fun d=>48+d).isEmpty=false:=by
  cases h:dg n.natAbs with
  | nil=>exact absurd h (dg_ne _)
  | cons a l=>rfl
 rw [h1,dig_all _ (dg_lt _)];simp only [kH,Bool.true_and,Bool.and_true,jWa];by_cases h0:n.natAbs=0
 . have:¬ n<0:=by omega
   rw [h0,Xd (by omega),jJb this];rfl
 . have:=dg_head n.natAbs (by omega)
   cases h:dg n.natAbs with
   | nil=>exact absurd h (dg_ne _)
   | cons a l =>
     rw [h] at this;have ha:a≠0:=by simpa using this
     simp [ha]
theorem txt_val (n:Int):Za (txt n)=n:=by
 unfold Za;rw [txt_neg,txt_strip,ds_map,val_dg];by_cases h:n<0
 . rw [jOa h,jAa rfl];omega
 . rw [jJb h,jAb (by simp)];omega
theorem txt_sval (l:List Nat) (h:Zb l=true):txt (Za l)=l:=by
 have hok:=h;rw [<- ok_form] at hok;have hc:=ok_canon hok;have hb:=ds_back (Kd l) (ok_parts hok).2.1;cases hn:neg l
 . have e:Za l=(val (ds (Kd l)):Int):=by unfold Za;rw [hn,jAb (by simp)]
   rw [e];unfold txt;rw [jAb (by omega),Int.natAbs_natCast,dg_val _ hc,hb]
   have:¬ l.head?=some 45:=by simpa [neg] using hn
   unfold Kd;rw [jAb this];rfl
 . have hp:=neg_pos h hn
   have e:Za l = -(val (ds (Kd l)):Int):=by unfold Za;rw [hn,jAa rfl]
   rw [e];unfold txt;rw [jAa (by omega),Int.natAbs_neg,Int.natAbs_natCast,dg_val _ hc,hb]
   have:l.head?=some 45:=by simpa [neg] using hn
   unfold Kd;rw [jAa this];cases l with
   | nil=>simp at this
   | cons a l=>simp at this;subst this;rfl
def prN (l:List Nat) (lo hi:Int):Int:=if Zb l=true/\lo<=Za l/\Za l<=hi then Za l else 0
def prE (l:List Nat) (lo hi:Int):Int:=if Zb l=true then (if lo<=Za l/\Za l<=hi then 0 else 2) else 3
end
section
open Go.ChangeShapes Go.WideShapes Go.ChangeAt Go.RowKit
theorem byteI (s:ByteArray) (k:Nat) (h:k<s.size):∃ c:Nat,(s[k].toNat:Int)=(c:Int)/\c<256/\(lst s)[k]?=some c :=
 ⟨s[k].toNat,rfl,UInt8.toNat_lt _,lst_get s k h⟩
theorem lst_eq48 (s:ByteArray):(s.toList == [48])=decide (lst s=[48]):=by
 rw [Zk,kNb,jVa,decide_eq_true_iff];constructor
 . intro h;rw [h];rfl
 . intro h
   cases hs:s.toList with
   | nil=>rw [hs] at h;simp at h
   | cons a l =>
     rw [hs,jD,kHb,kRa] at h
     have:a=48:=UInt8.toNat_inj.1 h.1;rw [this,h.2]
theorem head_of {l:List Nat} {c:Nat} (h:l[0]?=some c):l.head?=some c:=by rw [List.head?_eq_getElem?];exact h
theorem strip_is {s:ByteArray} {c:Nat} (h:(lst s)[0]?=some c):Kd (lst s)=if c=45 then (lst s).tail else lst s:=by
 unfold Kd;rw [head_of h];simp
theorem all_take_succ {l:List Nat} {k c:Nat} (h:l[k]?=some c) (ha:(l.take k).all dig=true) (hd:dig c=true):(l.take (k+1)).all dig=true:=by
 rw [jP,h];simp only [Option.toList_some,List.all_append,ha,List.all_cons,List.all_nil,hd];rfl
theorem all_false {l:List Nat} {k c:Nat} (h:l[k]?=some c) (hd:dig c=false):l.all dig=false:=by
 rw [List.all_eq_false];exact ⟨c,jDb h,by rw [hd];simp⟩
end
section
open Go.ChangeShapes Go.WideShapes Go.ChangeAt Go.RowKit
theorem retb {a b:Bool} (h:b=a):Ending.returned (.bool a)=.returned (.bool b):=by rw [h]
def pl (A:List Nat):List Nat:=A.map fun d=>48+d
theorem pl_length (A:List Nat):(pl A).length=A.length:=by simp [pl]
theorem pl_get (A:List Nat) (k c:Nat) (h:(pl A)[k]?=some c):A.getD k 0+48=c:=by
 simp only [pl,jNb,kC] at h;obtain ⟨d,hd,rfl⟩:=h;simp [hd];omega
end
section
open Go.ChangeShapes Go.WideShapes Go.ChangeAt Go.RowKit
theorem val_le_append (a b:List Nat):val a<=val (a ++ b):=by
 induction b using snocRec with
 | nil=>simp
 | snoc b d ih=>rw [<- jFb,Zt];omega
theorem pre_step (D:List Nat) (k d:Nat) (h:D[k]?=some d):val (D.take (k+1))=10 * val (D.take k)+d/\val (D.take (k+1))<=val D:=by
 refine ⟨by rw [jP,h];exact Zt _ _,?_⟩
 have:=val_le_append (D.take (k+1)) (D.drop (k+1))
 rwa [jX] at this
theorem ds_get {l:List Nat} {k c:Nat} (h:l[k]?=some c):(ds l)[k]?=some (c - 48):=by simp [ds,h]
theorem dig_at {l:List Nat} {k c:Nat} (hl:l.all dig=true) (h:l[k]?=some c):48<=c/\c<=57:=by
 have:=jLa.1 hl c (jDb h)
 simpa [dig] using this
theorem prE_form {l:List Nat} {lo hi:Int} (h:Zb l=false):prN l lo hi=0/\prE l lo hi=3:=by unfold prN prE;simp [h]
theorem Zp {l:List Nat} {lo hi:Int} (h:Zb l=true) (h2:¬ (lo<=Za l/\Za l<=hi)):prN l lo hi=0/\prE l lo hi=2:=by
 unfold prN prE;exact ⟨jAb (fun h=>h2 h.2),by rw [jAa h,jAb h2]⟩
theorem prE_in {l:List Nat} {lo hi:Int} (h:Zb l=true) (h2:lo<=Za l/\Za l<=hi):prN l lo hi=Za l/\prE l lo hi=0:=by
 unfold prN prE;exact ⟨jAa ⟨h,h2⟩,by rw [jAa h,jAa h2]⟩
theorem Zn {k k':IntKind} {a b c d:Int} (h:b=a) (h':d=c):Ending.returned (.tuple #[.int k a,.int k' c])=.returned (.tuple #[.int k b,.int k' d]):=by rw [h,h']
theorem Ye (n:Int) (h:I64 n):(textS n).size<=20:=by
 rw [<- Qi,Xo];unfold txt;rw [yG,jHb]
 have:=dg_len19 n h;split <;> simp <;> omega
theorem Bdrew {B:Nat} {w w1:World} {n:Nat} (h:Below B w w1):Below B w (w1.drewN n):=h.trans ⟨rfl,rfl,rfl,jBb _,fun _ _=>rfl⟩
end
section
open Go.ChangeShapes Go.WideShapes Go.ChangeAt Go.RowKit
def UOk (u:Int) (far:Bool) (v:Nat):Prop:=(far=false/\u=v/\v<18446744073709551616)\/(far=true/\18446744073709551610<=v)
theorem UOk.far_step {u:Int} {far:Bool} {v d:Nat} (h:UOk u far v) (hd:d<10) (hu:1844674407370955160<u) (x:Int):UOk x true (10 * v+d):=by
 right
 refine ⟨rfl,?_⟩;rcases h with ⟨_,h,_⟩|⟨_,h⟩ <;> omega
theorem UOk.on_step {u:Int} {v d:Nat} (h:UOk u true v) (x:Int):UOk x true (10 * v+d):=by
 right
 refine ⟨rfl,?_⟩;rcases h with ⟨h,_⟩|⟨_,h⟩
 . cases h
 . omega
theorem UOk.near_step {u:Int} {v d:Nat} (h:UOk u false v) (hd:d<10) (hu:u<=1844674407370955160):UOk (10 * u+d) false (10 * v+d):=by
 left
 rcases h with ⟨_,h,h2⟩|⟨h,_⟩
 . exact ⟨rfl,by omega,by omega⟩
 . cases h
theorem parse_any (s:ByteArray) (lo hi:Int) (w:World) (hs:s.size<=9223372036854775807) (hlo:I64 lo) (hhi:I64 hi) :
  Calls Tryz.prog 66 #[.string s,.int .i64 lo,.int .i64 hi] w fun r w'=>r=.returned (.tuple #[.int .i64 (prN (lst s) lo hi),.int .i64 (prE (lst s) lo hi)])/\w=w':=by
 have l1:=hlo.1;have h1:=hhi.2;clear hlo hhi;by_cases s0:0<s.size
 . obtain ⟨x,hx,hx2,hxl⟩:=byteI s 0 s0
   have hem:s.toList.isEmpty=false:=by
    have:=Qi s;rw [Zk,jHb] at this;cases hh:s.toList with
    | nil=>rw [hh] at this;simp at this;omega
    | cons _ _=>rfl
   have Hst:=yH (strip_is hxl);have Hng:=yH (show neg (lst s)=decide (x=45) from by unfold neg;rw [head_of hxl];simp);have z0:(1:Int)<=s.size:=by omega
   clear hxl;go_enter Tryz.func66,Tryz.ntmps66
   go_upto_if 21 with fail
   go_cut [8,9] (fun s8 s9 wx=>∃ (d:ByteArray) (b:Bool),s8=.string d/\s9=.bool b/\lst d=Kd (lst s)/\b=neg (lst s)/\d.size<=9223372036854775807/\wx=w)
   case first =>
    by_cases h45:x=45
    . subst h45
      go_wp2
      go_meet
      exact ⟨_,true,rfl,rfl,by have h:=Hst.out;rw [jAa trivial] at h;rw [h];exact lst_tail s,by rw [Hng.out];simp,by rw [kLa];omega,rfl⟩
    . have hne:((x:Int) == 45)=false:=by rw [jGa];omega
      go_wp2
      go_meet
      exact ⟨_,false,rfl,rfl,by rw [Hst.out,jAb h45],by rw [Hng.out];simp [h45],hs,rfl⟩
   case rest =>
    obtain ⟨d,b,rfl,rfl,hd,hb,hds,rfl⟩:=hcut;have hfok:Zb (lst s)=ok b (lst d):=by rw [hd,hb,ok_form]
    have hsv:Za (lst s)=if b=true then -(val (ds (lst d)):Int) else (val (ds (lst d)):Int):=by rw [hd,hb];rfl
    have Hf:=yH hfok;have Hv:=yH hsv;clear hd hb hfok hsv Hst Hng hx hx2;by_cases d0:0<d.size
    . obtain ⟨e,he,he2,hel⟩:=byteI d 0 d0
      have Hel:=yH hel;have hemd:d.toList.isEmpty=false:=by
       have:=Qi d;rw [Zk,jHb] at this;cases hh:d.toList with
       | nil=>rw [hh] at this;simp at this;omega
       | cons _ _=>rfl
      have hdl:=Qi d;by_cases hbad:e=48/\(b=true\/1<d.size)
      . obtain ⟨h48,hbb⟩:=hbad
        have hff:Zb (lst s)=false:=by
         rw [Hf.out];unfold ok;rw [head_of hel,h48,hdl];rcases hbb with h|h
         . rw [h];simp
         . simp [h]
        have Hr:=yH (prE_form (lo:=lo) (hi:=hi) hff);subst h48;clear hel hdl hff;rcases hbb with rfl|hl
        . go_wp2
          go_ret2;exact ⟨Zn Hr.out.1 Hr.out.2,rfl⟩
        . have hl':(1:Int)<d.size:=by omega
          cases b
          . go_wp2
            go_ret2;exact ⟨Zn Hr.out.1 Hr.out.2,rfl⟩
          . go_wp2
            go_ret2;exact ⟨Zn Hr.out.1 Hr.out.2,rfl⟩
      . have hgood:Zb (lst s)=(lst d).all dig:=by
          rw [Hf.out];unfold ok;rw [head_of hel];have hne:(lst d).isEmpty=false:=by
           cases hh:lst d with
           | nil=>rw [hh] at hdl;simp at hdl;omega
           | cons _ _=>rfl
          have hz:(some e == some 48 && (b || decide (1<(lst d).length)))=false:=by
           by_cases h48:e=48
           . have:¬ (b=true\/1<d.size):=fun h=>hbad ⟨h48,h⟩
             rw [hdl];simp only [not_or,Bool.not_eq_true] at this;rw [this.1];simp [this.2]
           . simp [h48]
          rw [hne,hz];simp
        have Hg:=yH hgood;have hdi:((e:Int) == 48)=false\/((e:Int) == 48)=true/\b=false/\¬ (1:Int)<d.size:=by
         by_cases h48:e=48
         . right
           have:¬ (b=true\/1<d.size):=fun h=>hbad ⟨h48,h⟩
           simp only [not_or,Bool.not_eq_true] at this;exact ⟨by simp [h48],this.1,by omega⟩
         . left;rw [jGa];omega
        clear hel hdl hgood hbad;have Hd0:=yH d0;have h3:((e:Int) == 48)=false/\b=true\/((e:Int) == 48)=false/\b=false\/((e:Int) == 48)=true/\b=false/\¬ (1:Int)<d.size:=by
         rcases hdi with h|h
         . cases b
           . exact Or.inr (Or.inl ⟨h,rfl⟩)
           . exact Or.inl ⟨h,rfl⟩
         . exact Or.inr (Or.inr h)
        clear hdi;rcases h3 with ⟨hd48,rfl⟩|⟨hd48,rfl⟩|⟨hd48,rfl,hd1⟩
        . go_wp2
          go_loop [10,11,12,13,41] (fun u f _ _ i=>∃ (k:Nat) (uu:Int) (far:Bool),k<=d.size/\i=.int .i64 k/\u=.int .u64 uu/\f=.bool far/\((lst d).take k).all dig=true/\UOk uu far (val (ds ((lst d).take k)))) (fun _ _ _ _ i=>(d.size - intOf i).toNat)
          case atStart=>exact ⟨0,0,false,by omega,rfl,rfl,rfl,by simp,Or.inl ⟨rfl,by simp [ds,val],by simp [ds,val]⟩⟩
          case round =>
           obtain ⟨k,uu,far,hk,rfl,rfl,rfl,hall,hu⟩:=hrel;have Hall:=yH hall;have Hu:=yH hu;clear hall hu;by_cases hlt:k<d.size
           . obtain ⟨g,hg,hg2,hgl⟩:=byteI d k hlt
             have Hgl:=yH hgl;by_cases hdg:48<=g/\g<=57
             . obtain ⟨g1,g2⟩:=hdg
               have g1':(48:Int)<=g:=by omega
               have g2':(g:Int)<=57:=by omega
               have Hal:=yH (all_take_succ Hgl.out Hall.out (jOa ⟨g1,g2⟩));have Hvs:=yH (show val (ds ((lst d).take (k+1)))=10 * val (ds ((lst d).take k))+(g - 48) from by
                rw [jP,hgl];simp only [Option.toList_some,ds,jH,jD,jTb];exact Zt _ _)
               clear hgl;generalize val (ds ((lst d).take k))=q at *
               by_cases hbig:1844674407370955160<uu
               . go_wp2
                 go_round
                 case rel=>exact ⟨k+1,_,true,by omega,by go_num,rfl,rfl,Hal.out,by rw [Hvs.out];exact Hu.out.far_step (by omega) hbig _⟩
                 case measure=>simp [intOf];omega
               . cases far
                 . have hu0:0<=uu:=by rcases Hu.out with ⟨_,h,_⟩|⟨h,_⟩;omega;cases h
                   have hub:uu<=1844674407370955160:=by omega
                   go_wp2
                   go_round
                   case rel=>exact ⟨k+1,_,false,by omega,by go_num,rfl,rfl,Hal.out,by rw [Hvs.out];have:=Hu.out.near_step (d:=g - 48) (by omega) hub;rw [show ((g - 48:Nat):Int)=(g:Int) - 48 by omega] at this;exact this⟩
                   case measure=>simp [intOf];omega
                 . go_wp2
                   go_round
                   case rel=>exact ⟨k+1,_,true,by omega,by go_num,rfl,rfl,Hal.out,by rw [Hvs.out];exact Hu.out.on_step _⟩
                   case measure=>simp [intOf];omega
             . have Hr:=yH (prE_form (lo:=lo) (hi:=hi) (show Zb (lst s)=false from by rw [Hg.out];exact all_false hgl (jJb hdg)))
               clear hgl;by_cases g1:(g:Int)<48
               . go_wp2
                 go_ret2;exact ⟨Zn Hr.out.1 Hr.out.2,rfl⟩
               . have g2:(57:Int)<g:=by omega
                 go_wp2
                 go_ret2;exact ⟨Zn Hr.out.1 Hr.out.2,rfl⟩
           . have hks:(lst d).take k=lst d:=jFa (by rw [Qi];omega)
             have hft:Zb (lst s)=true:=by rw [Hg.out,<- Hall.out,hks]
             have hu:=Hu.out;rw [hks] at hu;have hv:=Hv.out;generalize val (ds (lst d))=V at *
             have Hft:=yH hft;clear hks hft Hu Hall;cases far
             . have hE:Za (lst s) = -(V:Int):=by  exact hv
               have huu:uu=(V:Int):=by rcases hu with ⟨_,h,_⟩|⟨h,_⟩;exact h;cases h
               have hu0:0<=uu:=by omega
               rw [<- huu] at hE;clear hv hu huu;by_cases hq:(9223372036854775808:Int)<uu
               . have Hr:=yH (Zp (lo:=lo) (hi:=hi) Hft.out (by rw [hE];omega))
                 clear hE;go_wp2
                 go_ret2;exact ⟨Zn Hr.out.1 Hr.out.2,rfl⟩
               . have hwe:wrap64 (-wrap64 uu) = -uu:=by unfold wrap64;omega
                 by_cases hlo2 : -uu<lo
                 . have Hr:=yH (Zp (lo:=lo) (hi:=hi) Hft.out (by rw [hE];omega))
                   clear hE;go_wp2
                   go_ret2;exact ⟨Zn Hr.out.1 Hr.out.2,rfl⟩
                 . by_cases hhi2:hi < -uu
                   . have Hr:=yH (Zp (lo:=lo) (hi:=hi) Hft.out (by rw [hE];omega))
                     clear hE;go_wp2
                     go_ret2;exact ⟨Zn Hr.out.1 Hr.out.2,rfl⟩
                   . have Hr:=yH (prE_in (lo:=lo) (hi:=hi) Hft.out (by rw [hE];omega))
                     have HE:=yH hE;clear hE;go_wp2
                     go_ret2;exact ⟨Zn (Hr.out.1.trans HE.out) Hr.out.2,rfl⟩
             . have hE:Za (lst s) = -(V:Int):=by  exact hv
               have Hr:=yH (Zp (lo:=lo) (hi:=hi) Hft.out (by rw [hE];rcases hu with ⟨h,_⟩|⟨_,h⟩;cases h;omega));clear hv hu hE;go_wp2
               go_ret2;exact ⟨Zn Hr.out.1 Hr.out.2,rfl⟩
        . go_wp2
          go_loop [10,11,12,13,41] (fun u f _ _ i=>∃ (k:Nat) (uu:Int) (far:Bool),k<=d.size/\i=.int .i64 k/\u=.int .u64 uu/\f=.bool far/\((lst d).take k).all dig=true/\UOk uu far (val (ds ((lst d).take k)))) (fun _ _ _ _ i=>(d.size - intOf i).toNat)
          case atStart=>exact ⟨0,0,false,by omega,rfl,rfl,rfl,by simp,Or.inl ⟨rfl,by simp [ds,val],by simp [ds,val]⟩⟩
          case round =>
           obtain ⟨k,uu,far,hk,rfl,rfl,rfl,hall,hu⟩:=hrel;have Hall:=yH hall;have Hu:=yH hu;clear hall hu;by_cases hlt:k<d.size
           . obtain ⟨g,hg,hg2,hgl⟩:=byteI d k hlt
             have Hgl:=yH hgl;by_cases hdg:48<=g/\g<=57
             . obtain ⟨g1,g2⟩:=hdg
               have g1':(48:Int)<=g:=by omega
               have g2':(g:Int)<=57:=by omega
               have Hal:=yH (all_take_succ Hgl.out Hall.out (jOa ⟨g1,g2⟩));have Hvs:=yH (show val (ds ((lst d).take (k+1)))=10 * val (ds ((lst d).take k))+(g - 48) from by
                rw [jP,hgl];simp only [Option.toList_some,ds,jH,jD,jTb];exact Zt _ _)
               clear hgl;generalize val (ds ((lst d).take k))=q at *
               by_cases hbig:1844674407370955160<uu
               . go_wp2
                 go_round
                 case rel=>exact ⟨k+1,_,true,by omega,by go_num,rfl,rfl,Hal.out,by rw [Hvs.out];exact Hu.out.far_step (by omega) hbig _⟩
                 case measure=>simp [intOf];omega
               . cases far
                 . have hu0:0<=uu:=by rcases Hu.out with ⟨_,h,_⟩|⟨h,_⟩;omega;cases h
                   have hub:uu<=1844674407370955160:=by omega
                   go_wp2
                   go_round
                   case rel=>exact ⟨k+1,_,false,by omega,by go_num,rfl,rfl,Hal.out,by rw [Hvs.out];have:=Hu.out.near_step (d:=g - 48) (by omega) hub;rw [show ((g - 48:Nat):Int)=(g:Int) - 48 by omega] at this;exact this⟩
                   case measure=>simp [intOf];omega
                 . go_wp2
                   go_round
                   case rel=>exact ⟨k+1,_,true,by omega,by go_num,rfl,rfl,Hal.out,by rw [Hvs.out];exact Hu.out.on_step _⟩
                   case measure=>simp [intOf];omega
             . have Hr:=yH (prE_form (lo:=lo) (hi:=hi) (show Zb (lst s)=false from by rw [Hg.out];exact all_false hgl (jJb hdg)))
               clear hgl;by_cases g1:(g:Int)<48
               . go_wp2
                 go_ret2;exact ⟨Zn Hr.out.1 Hr.out.2,rfl⟩
               . have g2:(57:Int)<g:=by omega
                 go_wp2
                 go_ret2;exact ⟨Zn Hr.out.1 Hr.out.2,rfl⟩
           . have hks:(lst d).take k=lst d:=jFa (by rw [Qi];omega)
             have hft:Zb (lst s)=true:=by rw [Hg.out,<- Hall.out,hks]
             have hu:=Hu.out;rw [hks] at hu;have hv:=Hv.out;generalize val (ds (lst d))=V at *
             have Hft:=yH hft;clear hks hft Hu Hall;cases far
             . have hE:Za (lst s)=(V:Int):=by rw [hv,jAb (by simp)]
               have huu:uu=(V:Int):=by rcases hu with ⟨_,h,_⟩|⟨h,_⟩;exact h;cases h
               have hu0:0<=uu:=by omega
               rw [<- huu] at hE;clear hv hu huu;by_cases hq:(9223372036854775808:Int)<=uu
               . have Hr:=yH (Zp (lo:=lo) (hi:=hi) Hft.out (by rw [hE];omega))
                 clear hE;go_wp2
                 go_ret2;exact ⟨Zn Hr.out.1 Hr.out.2,rfl⟩
               . have hq':uu<=9223372036854775807:=by omega
                 clear hq;by_cases hlo2:uu<lo
                 . have Hr:=yH (Zp (lo:=lo) (hi:=hi) Hft.out (by rw [hE];omega))
                   clear hE;go_wp2
                   go_ret2;exact ⟨Zn Hr.out.1 Hr.out.2,rfl⟩
                 . by_cases hhi2:hi<uu
                   . have Hr:=yH (Zp (lo:=lo) (hi:=hi) Hft.out (by rw [hE];omega))
                     clear hE;go_wp2
                     go_ret2;exact ⟨Zn Hr.out.1 Hr.out.2,rfl⟩
                   . have Hr:=yH (prE_in (lo:=lo) (hi:=hi) Hft.out (by rw [hE];omega))
                     have HE:=yH hE;clear hE;go_wp2
                     go_ret2;exact ⟨Zn (Hr.out.1.trans HE.out) Hr.out.2,rfl⟩
             . have hE:Za (lst s)=(V:Int):=by rw [hv,jAb (by simp)]
               have Hr:=yH (Zp (lo:=lo) (hi:=hi) Hft.out (by rw [hE];rcases hu with ⟨h,_⟩|⟨_,h⟩;cases h;omega));clear hv hu hE;go_wp2
               go_ret2;exact ⟨Zn Hr.out.1 Hr.out.2,rfl⟩
        . go_wp2
          go_loop [10,11,12,13,41] (fun u f _ _ i=>∃ (k:Nat) (uu:Int) (far:Bool),k<=d.size/\i=.int .i64 k/\u=.int .u64 uu/\f=.bool far/\((lst d).take k).all dig=true/\UOk uu far (val (ds ((lst d).take k)))) (fun _ _ _ _ i=>(d.size - intOf i).toNat)
          case atStart=>exact ⟨0,0,false,by omega,rfl,rfl,rfl,by simp,Or.inl ⟨rfl,by simp [ds,val],by simp [ds,val]⟩⟩
          case round =>
           obtain ⟨k,uu,far,hk,rfl,rfl,rfl,hall,hu⟩:=hrel;have Hall:=yH hall;have Hu:=yH hu;clear hall hu;by_cases hlt:k<d.size
           . obtain ⟨g,hg,hg2,hgl⟩:=byteI d k hlt
             have Hgl:=yH hgl;by_cases hdg:48<=g/\g<=57
             . obtain ⟨g1,g2⟩:=hdg
               have g1':(48:Int)<=g:=by omega
               have g2':(g:Int)<=57:=by omega
               have Hal:=yH (all_take_succ Hgl.out Hall.out (jOa ⟨g1,g2⟩));have Hvs:=yH (show val (ds ((lst d).take (k+1)))=10 * val (ds ((lst d).take k))+(g - 48) from by
                rw [jP,hgl];simp only [Option.toList_some,ds,jH,jD,jTb];exact Zt _ _)
               clear hgl;generalize val (ds ((lst d).take k))=q at *
               by_cases hbig:1844674407370955160<uu
               . go_wp2
                 go_round
                 case rel=>exact ⟨k+1,_,true,by omega,by go_num,rfl,rfl,Hal.out,by rw [Hvs.out];exact Hu.out.far_step (by omega) hbig _⟩
                 case measure=>simp [intOf];omega
               . cases far
                 . have hu0:0<=uu:=by rcases Hu.out with ⟨_,h,_⟩|⟨h,_⟩;omega;cases h
                   have hub:uu<=1844674407370955160:=by omega
                   go_wp2
                   go_round
                   case rel=>exact ⟨k+1,_,false,by omega,by go_num,rfl,rfl,Hal.out,by rw [Hvs.out];have:=Hu.out.near_step (d:=g - 48) (by omega) hub;rw [show ((g - 48:Nat):Int)=(g:Int) - 48 by omega] at this;exact this⟩
                   case measure=>simp [intOf];omega
                 . go_wp2
                   go_round
                   case rel=>exact ⟨k+1,_,true,by omega,by go_num,rfl,rfl,Hal.out,by rw [Hvs.out];exact Hu.out.on_step _⟩
                   case measure=>simp [intOf];omega
             . have Hr:=yH (prE_form (lo:=lo) (hi:=hi) (show Zb (lst s)=false from by rw [Hg.out];exact all_false hgl (jJb hdg)))
               clear hgl;by_cases g1:(g:Int)<48
               . go_wp2
                 go_ret2;exact ⟨Zn Hr.out.1 Hr.out.2,rfl⟩
               . have g2:(57:Int)<g:=by omega
                 go_wp2
                 go_ret2;exact ⟨Zn Hr.out.1 Hr.out.2,rfl⟩
           . have hks:(lst d).take k=lst d:=jFa (by rw [Qi];omega)
             have hft:Zb (lst s)=true:=by rw [Hg.out,<- Hall.out,hks]
             have hu:=Hu.out;rw [hks] at hu;have hv:=Hv.out;generalize val (ds (lst d))=V at *
             have Hft:=yH hft;clear hks hft Hu Hall;cases far
             . have hE:Za (lst s)=(V:Int):=by rw [hv,jAb (by simp)]
               have huu:uu=(V:Int):=by rcases hu with ⟨_,h,_⟩|⟨h,_⟩;exact h;cases h
               have hu0:0<=uu:=by omega
               rw [<- huu] at hE;clear hv hu huu;by_cases hq:(9223372036854775808:Int)<=uu
               . have Hr:=yH (Zp (lo:=lo) (hi:=hi) Hft.out (by rw [hE];omega))
                 clear hE;go_wp2
                 go_ret2;exact ⟨Zn Hr.out.1 Hr.out.2,rfl⟩
               . have hq':uu<=9223372036854775807:=by omega
                 clear hq;by_cases hlo2:uu<lo
                 . have Hr:=yH (Zp (lo:=lo) (hi:=hi) Hft.out (by rw [hE];omega))
                   clear hE;go_wp2
                   go_ret2;exact ⟨Zn Hr.out.1 Hr.out.2,rfl⟩
                 . by_cases hhi2:hi<uu
                   . have Hr:=yH (Zp (lo:=lo) (hi:=hi) Hft.out (by rw [hE];omega))
                     clear hE;go_wp2
                     go_ret2;exact ⟨Zn Hr.out.1 Hr.out.2,rfl⟩
                   . have Hr:=yH (prE_in (lo:=lo) (hi:=hi) Hft.out (by rw [hE];omega))
                     have HE:=yH hE;clear hE;go_wp2
                     go_ret2;exact ⟨Zn (Hr.out.1.trans HE.out) Hr.out.2,rfl⟩
             . have hE:Za (lst s)=(V:Int):=by rw [hv,jAb (by simp)]
               have Hr:=yH (Zp (lo:=lo) (hi:=hi) Hft.out (by rw [hE];rcases hu with ⟨h,_⟩|⟨_,h⟩;cases h;omega));clear hv hu hE;go_wp2
               go_ret2;exact ⟨Zn Hr.out.1 Hr.out.2,rfl⟩
    . have hl:lst d=[]:=jJa (by rw [Qi];omega)
      have hemd:d.toList.isEmpty=true:=by
       rw [Zk,kRa] at hl;rw [hl];rfl
      have hff:Zb (lst s)=false:=by rw [Hf.out,hl];rfl
      have Hr:=yH (prE_form (lo:=lo) (hi:=hi) hff);clear hl hff;go_wp2
      go_ret2;exact ⟨Zn Hr.out.1 Hr.out.2,rfl⟩
 . have hl:lst s=[]:=jJa (by rw [Qi];omega)
   have hem:s.toList.isEmpty=true:=by
    have:=hl;rw [Zk,kRa] at this;rw [this];rfl
   have hff:Zb (lst s)=false:=by rw [hl];rfl
   have Hr:=yH (prE_form (lo:=lo) (hi:=hi) hff);clear hl hff;go_enter Tryz.func66,Tryz.ntmps66;go_wp2
   go_ret2;exact ⟨Zn Hr.out.1 Hr.out.2,rfl⟩
end
section
open Go.ChangeShapes Go.WideShapes Go.ChangeAt Go.RowKit
theorem form_any (s:ByteArray) (w:World) (hs:s.size<=70000) :
  Calls Tryz.prog 116 #[.string s] w fun r w'=>r=.returned (.bool (Zb (lst s)))/\w=w':=by
 by_cases h48:lst s=[48]
 . have hf:Zb (lst s)=true:=by unfold Zb;rw [jOa h48];rfl
   have ht:(s.toList == [48])=true:=by rw [lst_eq48,jOa h48]
   rw [hf];clear hf h48;go_enter Tryz.func116,Tryz.ntmps116;go_wp2
   go_ret;exact ⟨rfl,rfl⟩
 . have hf:Zb (lst s)=okD (Kd (lst s)):=by unfold Zb;rw [jJb h48];rfl
   have ht:(s.toList == [48])=false:=by rw [lst_eq48,jJb h48]
   rw [hf];clear hf h48;by_cases h0:0<s.size
   . obtain ⟨c,hc,hc2,hcl⟩:=byteI s 0 h0
     have Hcl:=yH hcl;have Hst:=yH (strip_is hcl);clear hcl;have hsz:(1:Int)<=s.size:=by omega
     go_enter Tryz.func116,Tryz.ntmps116
     go_upto_if 13 with fail
     go_cut [0] (fun s0 wx=>∃ d:ByteArray,s0=.string d/\lst d=Kd (lst s)/\d.size<=70000/\wx=w)
     case first =>
      by_cases h45:c=45
      . subst h45
        go_wp2
        go_meet
        exact ⟨_,rfl,by have h:=Hst.out;rw [jAa trivial] at h;rw [h];exact lst_tail s,by rw [kLa];omega,rfl⟩
      . have hne:((c:Int) == 45)=false:=by rw [jGa];omega
        go_wp2
        go_meet
        exact ⟨_,rfl,by rw [Hst.out,jAb h45],hs,rfl⟩
     case rest =>
      obtain ⟨d,rfl,hd,hds,rfl⟩:=hcut;have Hd:=yH hd;clear hd;by_cases d0:0<d.size
      . obtain ⟨e,he,he2,hel⟩:=byteI d 0 d0
        have Hel:=yH hel;clear hel;have hem:d.toList.isEmpty=false:=by
         have:=Qi d;rw [Zk,jHb] at this;cases hh:d.toList with
         | nil=>rw [hh] at this;simp at this;omega
         | cons _ _=>rfl
        by_cases h48:e=48
        . subst h48
          have hf:okD (Kd (lst s))=false:=by
           rw [<- Hd.out];unfold okD;rw [head_of Hel.out];simp
          have Hf:=yH hf;clear hf;go_wp2
          go_ret;exact ⟨by rw [Hf.out];rfl,rfl⟩
        . have hne:((e:Int) == 48)=false:=by rw [jGa];omega
          have hfa:okD (Kd (lst s))=(lst d).all dig:=by
           rw [<- Hd.out];unfold okD;rw [head_of Hel.out]
           have:lst d≠[]:=by intro h;have:=Hel.out;rw [h] at this;simp at this
           cases hl:lst d with
           | nil=>exact absurd hl this
           | cons _ _=>simp [h48]
          have Hf:=yH hfa;clear hfa;go_wp2
          go_loop [3] (fun i=>∃ k:Nat,k<=d.size/\i=.int .i64 k/\((lst d).take k).all dig=true) (fun i=>(d.size - intOf i).toNat)
          case atStart=>exact ⟨0,by omega,rfl,by simp⟩
          case round =>
           obtain ⟨k,hk,rfl,hall⟩:=hrel;have Hall:=yH hall;clear hall;by_cases hlt:k<d.size
           . obtain ⟨g,hg,hg2,hgl⟩:=byteI d k hlt
             have Hgl:=yH hgl;clear hgl;by_cases hdg:48<=g/\g<=57
             . obtain ⟨g1,g2⟩:=hdg
               have g1':(48:Int)<=g:=by omega
               have g2':(g:Int)<=57:=by omega
               go_wp2
               go_round
               case rel=>exact ⟨k+1,by omega,by go_num,all_take_succ Hgl.out Hall.out (jOa ⟨g1,g2⟩)⟩
               case measure=>simp [intOf];omega
             . have hfalse:okD (Kd (lst s))=false:=by rw [Hf.out];exact all_false Hgl.out (jJb hdg)
               have Hff:=yH hfalse;clear hfalse;by_cases g1:(g:Int)<48
               . go_wp2
                 go_ret;exact ⟨by rw [Hff.out];rfl,rfl⟩
               . have g2:(57:Int)<g:=by omega
                 go_wp2
                 go_ret;exact ⟨by rw [Hff.out];rfl,rfl⟩
           . have htrue:okD (Kd (lst s))=true:=by
               rw [Hf.out,<- Hall.out,jFa (by rw [Qi];omega)]
             have Htt:=yH htrue;clear htrue;go_wp2
             go_ret;exact ⟨by rw [Htt.out];rfl,rfl⟩
      . have hdz:d.size=0:=by omega
        have hem:d.toList.isEmpty=true:=by
         have:=Qi d;rw [Zk,jHb,hdz] at this;rw [jJa this];rfl
        have hf:okD (Kd (lst s))=false:=by
         rw [<- Hd.out]
         have:lst d=[]:=jJa (by rw [Qi,hdz]);rw [this];rfl
        have Hf:=yH hf;clear hf hdz;go_wp2
        go_ret;exact ⟨by rw [Hf.out];rfl,rfl⟩
   . have hl:lst s=[]:=jJa (by rw [Qi];omega)
     have hem:s.toList.isEmpty=true:=by
      rw [Zk,kRa] at hl;rw [hl];rfl
     have hf:okD (Kd (lst s))=false:=by rw [hl];rfl
     rw [hf];clear hf hl;go_enter Tryz.func116,Tryz.ntmps116;go_wp2
     go_ret;exact ⟨rfl,rfl⟩
theorem below_any (a b:ByteArray) (A B:List Nat) (w:World) (ha:lst a=pl A) (hb:lst b=pl B) (cA:Canon A) (cB:Canon B) (sa:a.size<=100000) (sb:b.size<=100000) :
  Calls Tryz.prog 147 #[.string a,.string b] w fun r w'=>r=.returned (.bool (decide (val A<val B)))/\∃ n,w'=w.drewN n:=by
 have la:A.length=a.size:=by rw [<- Qi,ha,pl_length]
 have lb:B.length=b.size:=by rw [<- Qi,hb,pl_length]
 have Ha:=yH ha;have Hb:=yH hb;have CA:=yH cA;have CB:=yH cB;clear ha hb cA cB;by_cases hl:a.size=b.size
 . have hne:((a.size:Int) != (b.size:Int))=false:=by simp [hl]
   have hlt:(decide (val A<val B))=decide (val A<val B):=rfl;generalize hV:decide (val A<val B)=V at *
   have HV:=yH hV;have La:=yH la;have Lb:=yH lb;have Hl:=yH hl;clear hV hlt la lb hl;go_enter Tryz.func147,Tryz.ntmps147;go_wp2
   go_loopw [5] (fun i wr=>∃ k n:Nat,k<=a.size/\i=.int .i64 k/\A.take k=B.take k/\wr=w.drewN n) (fun i _=>(a.size - intOf i).toNat)
   case atStart=>exact ⟨0,0,by omega,rfl,rfl,rfl⟩
   case round =>
    obtain ⟨k,n,hk,rfl,hpre,rfl⟩:=hrel;have Hpre:=yH hpre;clear hpre;by_cases hlt:k<a.size
    . obtain ⟨x,hx,hx2,hxl⟩:=byteI a k hlt
      have hlt2:k<b.size:=by have:=Hl.out;omega
      obtain ⟨y,hy,hy2,hyl⟩:=byteI b k hlt2;rw [Ha.out] at hxl;rw [Hb.out] at hyl;have Hx:=yH (pl_get A k x hxl);have Hy:=yH (pl_get B k y hyl);have k0:(0:Int)<=(k:Int):=by omega
      have k1:(k:Int)<(a.size:Int):=by omega
      have k2:(k:Int)<(b.size:Int):=by omega
      clear hxl hyl;by_cases hxy:x=y
      . subst hxy
        have hne':((x:Int) != (x:Int))=false:=by simp
        have Hp:=yH (show A.take (k+1)=B.take (k+1) from by
         rw [jP,jP,Hpre.out];have h1:=Hx.out;have h2:=Hy.out;have hA:k<A.length:=by rw [La.out];exact hlt
         have hB:k<B.length:=by rw [Lb.out];exact hlt2
         rw [yD,yA hA] at h1;rw [yD,yA hB] at h2;rw [yA hA,yA hB];simp only [Option.getD_some] at h1 h2;simp only [Option.toList_some];rw [show A[k]=B[k] by omega])
        go_wp2_with fail
        go_quiet (fail)
        go_wp2
        go_roundw
        case rel=>exact ⟨k+1,_,by omega,by go_num,Hp.out,rfl⟩
        case measure=>simp [intOf];omega
      . have hne':((x:Int) != (y:Int))=true:=by rw [kWa];omega
        have Hfin:=yH (show V=decide (x<y) from by
         rw [<- HV.out,kQa,val_lt_iff A B (by rw [La.out,Lb.out,Hl.out]) CA.out.2.1 CB.out.2.1 k (by rw [La.out];exact hlt) Hpre.out (by have:=Hx.out;have:=Hy.out;omega)]
         have:=Hx.out
         have:=Hy.out;omega)
        go_wp2_with fail
        go_quiet (fail)
        go_wp2_with fail
        go_quiet (fail)
        go_wp2
        go_ret;exact ⟨retb (by rw [Hfin.out]),_,by rw [World.drewN_drewN,World.drewN_drewN]⟩
    . have hka:k=a.size:=by omega
      have Hfin:=yH (show V=false from by
       rw [<- HV.out,jI];have h1:=Hpre.out;rw [jFa (by rw [La.out];omega),jFa (by rw [Lb.out];have:=Hl.out;omega)] at h1;rw [h1];omega)
      clear hka;go_wp2
      go_ret;exact ⟨retb Hfin.out,_,rfl⟩
 . have hne:((a.size:Int) != (b.size:Int))=true:=by rw [kWa];omega
   have Hfin:=yH (show decide (val A<val B)=decide (a.size<b.size) from by
    rw [kQa];constructor
    . intro h
      rcases jY a.size b.size with h1|h1
      . exact h1
      . rcases len_lt_val CB.out.2.1 CA.out (show B.length<A.length by omega) with h2|h2
        . omega
        . exact absurd h2 CB.out.1
    . intro h
      rcases len_lt_val CA.out.2.1 CB.out (show A.length<B.length by omega) with h2|h2
      . exact h2
      . exact absurd h2 CA.out.1)
   clear hl la lb;go_enter Tryz.func147,Tryz.ntmps147;go_wp2
   go_ret;exact ⟨retb (by rw [Hfin.out]),0,rfl⟩
theorem formB_parts {s:ByteArray} (h:Zb (lst s)=true):Canon (ds (Kd (lst s)))/\Kd (lst s)=pl (ds (Kd (lst s)))/\0<s.size:=by
 have hok:=h;rw [<- ok_form] at hok;refine ⟨ok_canon hok,(ds_back _ (ok_parts hok).2.1).symm,?_⟩;rw [<- Qi]
 have:=(ok_parts hok).1;cases hl:lst s with
 | nil=>rw [hl] at this;exact absurd rfl this
 | cons _ _=>simp
theorem quiet_below {a b:ByteArray} {A B:List Nat} {w:World} (ha:lst a=pl A) (hb:lst b=pl B) (cA:Canon A) (cB:Canon B) (sa:a.size<=100000) (sb:b.size<=100000) :
 Calls Tryz.prog 147 #[.string a,.string b] w fun r w'=>r=.returned (.bool (decide (val A<val B)))/\∃ n,w'=w.drewN n:=below_any a b A B w ha hb cA cB sa sb
theorem nless_any (a b:ByteArray) (w:World) (ha:Zb (lst a)=true) (hb:Zb (lst b)=true) (sa:a.size<=100000) (sb:b.size<=100000) :
  Calls Tryz.prog 117 #[.string a,.string b] w fun r w'=>r=.returned (.bool (decide (Za (lst a)<Za (lst b))))/\∃ n,w'=w.drewN n:=by
 obtain ⟨cA,lA,a0⟩:=formB_parts ha;obtain ⟨cB,lB,b0⟩:=formB_parts hb;obtain ⟨x,hx,hx2,hxl⟩:=byteI a 0 a0;obtain ⟨y,hy,hy2,hyl⟩:=byteI b 0 b0;have nx:neg (lst a)=decide (x=45):=by unfold neg;rw [head_of hxl];simp
 have ny:neg (lst b)=decide (y=45):=by unfold neg;rw [head_of hyl];simp
 have qx:=strip_is hxl;have qy:=strip_is hyl;have za:(1:Int)<=a.size:=by omega
 have zb:(1:Int)<=b.size:=by omega
 have pa:=fun h=>neg_pos ha h
 have pb:=fun h=>neg_pos hb h
 have vA:Za (lst a)=if x=45 then -(val (ds (Kd (lst a))):Int) else (val (ds (Kd (lst a))):Int):=by unfold Za;rw [nx];simp
 have vB:Za (lst b)=if y=45 then -(val (ds (Kd (lst b))):Int) else (val (ds (Kd (lst b))):Int):=by unfold Za;rw [ny];simp
 rw [nx] at pa;rw [ny] at pb;generalize ds (Kd (lst a))=A at *
 generalize ds (Kd (lst b))=B at *
 clear nx ny ha hb hxl hyl;by_cases h1:x=45
 . by_cases h2:y=45
   . rw [jAa h1] at qx vA
     rw [jAa h2] at qy vB;have e1:=(lst_tail a).trans (qx.symm.trans lA);have e2:=(lst_tail b).trans (qy.symm.trans lB);have hc:=fun w=>@quiet_below _ _ _ _ w e2 e1 cB cA (by rw [kLa];omega) (by rw [kLa];omega)
     have hv:decide (Za (lst a)<Za (lst b))=decide (val B<val A):=by rw [kQa,vA,vB];omega
     have Hc:=yH hc;rw [hv];clear hc hv e1 e2 qx qy vA vB lA lB pa pb cA cB;subst h1 h2;go_enter Tryz.func117,Tryz.ntmps117;go_wp2_with fail
     go_quiet ((go_at_call 147;exact Calls.quiet_of (Hc.out _)))
     go_wp2
     go_ret;exact ⟨rfl,_,rfl⟩
   . have hp:=pa (jOa h1)
     rw [jAa h1] at vA;rw [jAb h2] at vB;have hv:decide (Za (lst a)<Za (lst b))=true:=by rw [decide_eq_true_iff,vA,vB];omega
     rw [hv];clear hv qx qy vA vB lA lB pa pb cA cB;have g2:((y:Int) == 45)=false:=by rw [jGa];omega
     subst h1;go_enter Tryz.func117,Tryz.ntmps117;go_wp2
     go_ret;exact ⟨rfl,0,rfl⟩
 . have g1:((x:Int) == 45)=false:=by rw [jGa];omega
   by_cases h2:y=45
   . have hp:=pb (jOa h2)
     rw [jAb h1] at vA;rw [jAa h2] at vB;have hv:decide (Za (lst a)<Za (lst b))=false:=by rw [jI,vA,vB];omega
     rw [hv];clear hv qx qy vA vB lA lB pa pb cA cB h1;subst h2;go_enter Tryz.func117,Tryz.ntmps117;go_wp2
     go_ret;exact ⟨rfl,0,rfl⟩
   . have g2:((y:Int) == 45)=false:=by rw [jGa];omega
     rw [jAb h1] at qx vA;rw [jAb h2] at qy vB;have hc:=fun w=>@quiet_below _ _ _ _ w (qx.symm.trans lA) (qy.symm.trans lB) cA cB sa sb
     have hv:decide (Za (lst a)<Za (lst b))=decide (val A<val B):=by rw [kQa,vA,vB];omega
     have Hc:=yH hc;rw [hv];clear hc hv qx qy vA vB lA lB pa pb cA cB h1 h2;go_enter Tryz.func117,Tryz.ntmps117;go_wp2_with (go_at_call 147;refine (Hc.out _).mono ?_;rintro r w' ⟨rfl,n,rfl⟩)
     go_ret;exact ⟨rfl,_,rfl⟩
theorem rparse_any (s:ByteArray) (lo hi:Int) (w:World) (hs:s.size<=70000) (hlo:I64 lo) (hhi:I64 hi) :
  Calls Tryz.prog 68 #[.string s,.int .i64 lo,.int .i64 hi] w fun r w'=>r=.returned (.tuple #[.int .i64 (prN (lst s) lo hi),.int .i64 (prE (lst s) lo hi)])/\Below w.heap.size w w':=by
 have c1:=fun w=>form_any s w hs
 have C2:=yH (fun w=>rtext_any lo w hlo);have C3:=yH (fun w=>rtext_any hi w hhi);cases hf:Zb (lst s)
 . rw [(prE_form hf).1,(prE_form hf).2]
   rw [hf] at c1;have C1:=yH c1;clear c1 hf hlo hhi;go_enter Tryz.func68,Tryz.ntmps68;go_wp2_with (go_at_call 116;refine (C1.out _).mono ?_;rintro r w' ⟨rfl,rfl⟩)
   go_ret2;exact ⟨rfl,Below.refl _ _⟩
 . rw [hf] at c1
   have C1:=yH c1;have c4:=fun w=>nless_any s (textS lo) w hf (by rw [Xo];exact txt_form lo) (by omega) (by have:=Ye lo hlo;omega)
   have c5:=fun w=>nless_any (textS hi) s w (by rw [Xo];exact txt_form hi) hf (by have:=Ye hi hhi;omega) (by omega)
   rw [Xo,txt_val] at c4 c5;have l1:=hlo.1;have h1:=hhi.2;have Lhi:=yH hhi;have Llo:=yH hlo;by_cases q1:Za (lst s)<lo
   . rw [(Zp hf (by omega)).1,(Zp hf (by omega)).2]
     rw [jOa q1] at c4;have C4:=yH c4;clear c1 c4 c5 hf q1 l1 h1;go_enter Tryz.func68,Tryz.ntmps68;go_wp2_with fail
     refine (C1.out _).mono ?_;rintro r w' ⟨rfl,rfl⟩;go_wp2_with fail
     refine (C2.out _).mono ?_;rintro r w1 ⟨rfl,hb1⟩;go_wp2_with fail
     refine (C4.out _).mono ?_;rintro r w2 ⟨rfl,n2,rfl⟩;go_wp2_with fail
     go_ret2;exact ⟨rfl,Bdrew hb1⟩
   . rw [jJb q1] at c4
     have C4:=yH c4;by_cases q2:hi<Za (lst s)
     . rw [(Zp hf (by omega)).1,(Zp hf (by omega)).2]
       rw [jOa q2] at c5;have C5:=yH c5;clear c1 c4 c5 hf q1 q2 l1 h1;go_enter Tryz.func68,Tryz.ntmps68;go_wp2_with fail
       refine (C1.out _).mono ?_;rintro r w' ⟨rfl,rfl⟩;go_wp2_with fail
       refine (C2.out _).mono ?_;rintro r w1 ⟨rfl,hb1⟩;go_wp2_with fail
       refine (C4.out _).mono ?_;rintro r w2 ⟨rfl,n2,rfl⟩;go_wp2_with fail
       refine (C3.out _).mono ?_;rintro r w3 ⟨rfl,hb3⟩;go_wp2_with fail
       refine (C5.out _).mono ?_;rintro r w4 ⟨rfl,n4,rfl⟩;go_wp2_with fail
       go_ret2;exact ⟨rfl,Bdrew ((Bdrew hb1).trans (hb3.mono hb1.size))⟩
     . rw [(prE_in hf (by omega)).1,(prE_in hf (by omega)).2]
       rw [jJb q2] at c5;have C5:=yH c5;obtain ⟨cD,lD,s0⟩:=formB_parts hf;obtain ⟨x,hx,hx2,hxl⟩:=byteI s 0 s0;have nx:neg (lst s)=decide (x=45):=by unfold neg;rw [head_of hxl];simp
       have qx:=strip_is hxl;have hall:(Kd (lst s)).all dig=true:=by have:=hf;rw [<- ok_form] at this;exact (ok_parts this).2.1
       have vS:Za (lst s)=if x=45 then -(val (ds (Kd (lst s))):Int) else (val (ds (Kd (lst s))):Int):=by unfold Za;rw [nx];simp
       generalize hv:Za (lst s)=v at *
       have Hall:=yH hall;have z0:(1:Int)<=s.size:=by omega
       clear c1 c4 c5 hf nx lD hall hv hxl;have v1 : -9223372036854775808<=v:=by omega
       have v2:v<=9223372036854775807:=by omega
       clear q1 q2 l1 h1;go_enter Tryz.func68,Tryz.ntmps68;go_wp2_with fail
       refine (C1.out _).mono ?_;rintro r w' ⟨rfl,rfl⟩;go_wp2_with fail
       refine (C2.out _).mono ?_;rintro r w1 ⟨rfl,hb1⟩;go_wp2_with fail
       refine (C4.out _).mono ?_;rintro r w2 ⟨rfl,n2,rfl⟩;go_wp2_with fail
       refine (C3.out _).mono ?_;rintro r w3 ⟨rfl,hb3⟩;go_wp2_with fail
       refine (C5.out _).mono ?_;rintro r w4 ⟨rfl,n4,rfl⟩;go_wp2_with fail
       have hbz:Below w.heap.size w ((w3.drewN n4)):=Bdrew ((Bdrew hb1).trans (hb3.mono hb1.size));have Hbz:=yH hbz;by_cases h45:x=45
       . rw [jAa h45] at qx vS
         have hA:∀ k c,1<=k->(lst s)[k]?=some c->(48<=c/\c<=57)/\(ds (Kd (lst s)))[k - 1]?=some (c - 48):=by
          intro k c hk hc;have h1:(Kd (lst s))[k - 1]?=some c:=by
           rw [qx,List.getElem?_tail,show k - 1+1=k by omega];exact hc
          exact ⟨dig_at Hall.out h1,ds_get h1⟩
         have hlen:(ds (Kd (lst s))).length=s.size - 1:=by rw [qx];simp [ds,Qi]
         generalize ds (Kd (lst s))=D at *
         have HA:=yH hA;have HL:=yH hlen;have HV:=yH vS;have HC:=yH cD;have hz:(s.size:Int)<=70000:=by omega
         clear hA hlen vS qx cD;subst h45
         go_loop [8,9] (fun n i=>∃ k:Nat,k<=s.size/\i=.int .i64 k/\n=.int .i64 (-(val (D.take (k - 1)):Int))) (fun _ i=>(s.size - intOf i).toNat)
         case atStart=>exact ⟨0,by omega,rfl,by simp [val]⟩
         case round =>
          obtain ⟨k,hk,rfl,rfl⟩:=hrel;by_cases hlt:k<s.size
          . by_cases hk0:k=0
            . subst hk0
              go_wp2
              go_round
              case rel=>exact ⟨1,by omega,rfl,by simp [val]⟩
              case measure=>simp [intOf];omega
            . obtain ⟨c,hc,hc2,hcl⟩:=byteI s k hlt
              obtain ⟨⟨d1,d2⟩,hD⟩:=HA.out k c (by omega) hcl;obtain ⟨e1,e2⟩:=pre_step D (k - 1) (c - 48) hD;rw [show k - 1+1=k by omega] at e1 e2;have hV:=HV.out;have HE:=yH e1;have b1:10 * (val (D.take (k - 1)):Int)+c<=9223372036854775856:=by omega
              have d1':(48:Int)<=c:=by omega
              have d2':(c:Int)<=57:=by omega
              have h45:((c:Int) == 45)=false:=by rw [jGa];omega
              clear hcl hD e1 e2 hV;generalize val (D.take (k - 1))=q at *
              go_wp2
              go_round
              case rel =>
               go_light
               refine ⟨k+1,by omega,by go_num,?_⟩;rw [show k+1 - 1=k by omega,HE.out];congr 1
               omega
              case measure=>simp [intOf];omega
          . have hks:k=s.size:=by omega
            have HF:=yH (show v = -(val (D.take (k - 1)):Int) from by rw [HV.out,jFa (by rw [HL.out];omega)]);clear hks;go_wp2
            go_ret2;exact ⟨Zn HF.out rfl,Hbz.out⟩
       . rw [jAb h45] at qx vS
         have hA:∀ k c:Nat,(lst s)[k]?=some c->(48<=c/\c<=57)/\(ds (Kd (lst s)))[k]?=some (c - 48):=by
          intro k c hc;have h1:(Kd (lst s))[k]?=some c:=by rw [qx];exact hc
          exact ⟨dig_at Hall.out h1,ds_get h1⟩
         have hlen:(ds (Kd (lst s))).length=s.size:=by rw [qx];simp [ds,Qi]
         generalize ds (Kd (lst s))=D at *
         have HA:=yH hA;have HL:=yH hlen;have HV:=yH vS;have hz:(s.size:Int)<=70000:=by omega
         have g45:((x:Int) == 45)=false:=by rw [jGa];omega
         clear hA hlen vS qx cD
         go_loop [8,9] (fun n i=>∃ k:Nat,k<=s.size/\i=.int .i64 k/\n=.int .i64 (val (D.take k):Int)) (fun _ i=>(s.size - intOf i).toNat)
         case atStart=>exact ⟨0,by omega,rfl,by simp [val]⟩
         case round =>
          obtain ⟨k,hk,rfl,rfl⟩:=hrel;by_cases hlt:k<s.size
          . obtain ⟨c,hc,hc2,hcl⟩:=byteI s k hlt
            obtain ⟨⟨d1,d2⟩,hD⟩:=HA.out k c hcl;obtain ⟨e1,e2⟩:=pre_step D k (c - 48) hD;have hV:=HV.out;have HE:=yH e1;have b1:10 * (val (D.take k):Int)+c<=9223372036854775855:=by omega
            have d1':(48:Int)<=c:=by omega
            have d2':(c:Int)<=57:=by omega
            have h45':((c:Int) == 45)=false:=by rw [jGa];omega
            clear hcl hD e1 e2 hV;generalize val (D.take k)=q at *
            go_wp2
            go_round
            case rel =>
             go_light
             refine ⟨k+1,by omega,by go_num,?_⟩;rw [HE.out];congr 1
             omega
            case measure=>simp [intOf];omega
          . have hks:k=s.size:=by omega
            have HF:=yH (show v=(val (D.take k):Int) from by rw [HV.out,jFa (by rw [HL.out];omega)]);clear hks;go_wp2
            go_ret2;exact ⟨Zn HF.out rfl,Hbz.out⟩
end
end Go.Proofs.YtidamcdklgfogaaGreatDoor
