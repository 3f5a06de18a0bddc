import Derived.Test.YtidamcdklgfogaaGreatDoorUbg
import Derived.HandedShaped
import Derived.Shelf.Vars
set_option linter.unusedVariables false
set_option linter.unusedSimpArgs false
set_option maxRecDepth 100000
set_option maxHeartbeats 8000000
namespace Go.Proofs.YtidamcdklgfogaaGreatDoor
section
open Go.RowKit
section
variable {E w:World} {I:PH} {ms:List PH} {v u:Value}
theorem isame5_any {l:List Int} (hl:IntRo I v l) (hm:IntRo I u l) (hb:l.length<=4611686018427387904) (hS:Sat E I ms w) :
  Calls Tryz.prog 10 #[v,u] w fun e w'=>e=.returned (.bool true)/\Sat E I ms w':=by
 obtain ⟨A,c,rfl,hl2⟩:=hl;obtain ⟨B,d,rfl,hm2⟩:=hm;have hld:∀ i,i<l.length->∃ x X Y o p,A=some ⟨X,o,none⟩/\B=some ⟨Y,p,none⟩/\I.at X (o+i)=some (.int .i64 x)/\I.at Y (p+i)=some (.int .i64 x):=fun i hi=>by
  obtain ⟨X,o,e1,h1⟩:=hl2 (by omega);obtain ⟨Y,p,e2,h2⟩:=hm2 (by omega);exact ⟨_,X,Y,o,p,e1,e2,h1 i _ (yA hi),h2 i _ (yA hi)⟩
 have Hld:=yH hld;clear hld hl2 hm2;generalize l.length=n at *
 have hbi:(n:Int)<=4611686018427387904:=by omega
 go_enter Tryz.func10,Tryz.ntmps10;go_wp2_with fail
 go_loopw [5] (fun v5 wr=>∃ i:Nat,i<=n/\v5=.int .i64 (i:Int)/\Sat E I ms wr) (fun v5 _=>(n - intOf v5).toNat)
 case atStart=>exact ⟨0,jCa _,rfl,hS⟩
 case round =>
  clear hS;obtain ⟨i,hin,rfl,hS⟩:=hrel;by_cases hlt:i<n
  . obtain ⟨x,X,Y,o,p,rfl,rfl,fx,fy⟩:=Hld.out i hlt
    have ii:(i:Int)<(n:Int):=by omega
    go_wp2_with fail
    refine Qg [[],[],[0,1],[0,1,2],[],[],[4,5],[4,5,6],[0,1,2,3,4,5,6,7]] E I _
     [fun v _=>v=.slice (some ⟨X,o,none⟩) n c,fun v _=>v=.int .i64 i,fun v _=>v=.pointer (some ⟨X,o+i,none⟩),fun v _=>v=.int .i64 x,fun v _=>v=.slice (some ⟨Y,p,none⟩) n d,fun v _=>v=.int .i64 i,fun v _=>v=.pointer (some ⟨Y,p+i,none⟩),fun v _=>v=.int .i64 x,fun v _=>v=.bool false] [] (fun _ _ _ ns=>ns=ms) (by kernel_rfl) (by kernel_rfl) (by decide) hS rfl ?last (fun _ _ _ _ _ _ h=>h) (fun _ _ _ _ _ _ h=>h) ?plain ?step ?fin
    case last=>exact bL
    case plain=>(repeat' (first|exact trivial|apply And.intro)) <;>  (refine .inr ?_;intro s vals J bs w hstop hg hJ hS hG;clear hG;refine bS ?_;intro K HK;(first|(refine bJ ?_)|(go_wp2_with (fail)));exact bO)
    case step=>trivial
    case fin =>
     intro vals J9 bs w hJ hg hS9 hG;have hG:bs=ms:=hG;rw [hG] at hS9;have hS2:=hS9.less hJ;clear hJ hG hS9 hS;simp only [yB,yC,Nat.reduceAdd,Below_,Facts,zH,zI,jGb] at hg;simp only [yB,yC,Nat.reduceAdd,Qb,Qe,Qd,zA,zB,zK,jC,Act.put,zE,zF,zG,hg];refine ⟨?_⟩;clear hg;go_wp2_with fail
     exact ⟨⟨i+1,by omega,by go_num,hS2⟩,by simp [intOf];omega⟩
  . have ii:¬ (i:Int)<(n:Int):=by omega
    go_wp2_with fail
    go_ret;exact ⟨rfl,hS⟩
theorem rowsame_any {l:List G.Rw3} (hl:Row3o I v l) (hm:Row3o I u l) (hb:l.length<=461168601842738790) (hS:Sat E I ms w) :
  Calls Tryz.prog 9 #[v,u] w fun e w'=>e=.returned (.bool true)/\Sat E I ms w':=by
 obtain ⟨A,c,rfl,hl2⟩:=hl;obtain ⟨B,d,rfl,hm2⟩:=hm;have hld:∀ i,i<l.length->∃ (a b z:Int) (X Y o p:Nat),A=some ⟨X,o,none⟩/\B=some ⟨Y,p,none⟩/\Cells I X (o+i * 3) [.int .i64 a,.int .i64 b,.int .i64 z]/\Cells I Y (p+i * 3) [.int .i64 a,.int .i64 b,.int .i64 z]:=fun i hi=>by
  obtain ⟨X,o,e1,h1⟩:=hl2 (by omega);obtain ⟨Y,p,e2,h2⟩:=hm2 (by omega);exact ⟨_,_,_,X,Y,o,p,e1,e2,h1 i _ (yA hi),h2 i _ (yA hi)⟩
 have Hld:=yH hld;clear hld hl2 hm2;generalize l.length=n at *
 have hbi:(n:Int)<=461168601842738790:=by omega
 go_enter Tryz.func9,Tryz.ntmps9;go_wp2_with fail
 go_loopw [5] (fun v5 wr=>∃ i:Nat,i<=n/\v5=.int .i64 (i:Int)/\Sat E I ms wr) (fun v5 _=>(n - intOf v5).toNat)
 case atStart=>exact ⟨0,jCa _,rfl,hS⟩
 case round =>
  clear hS;obtain ⟨i,hin,rfl,hS⟩:=hrel;by_cases hlt:i<n
  . obtain ⟨a,b,z,X,Y,o,p,rfl,rfl,fx,fy⟩:=Hld.out i hlt
    have ii:(i:Int)<(n:Int):=by omega
    go_wp2_with fail
    refine Qg [[],[],[0,1],[0,1,2],[],[],[4,5],[4,5,6],[0,1,2,3,4,5,6,7]] E I _
     [fun v _=>v=.slice (some ⟨X,o,none⟩) n c,fun v _=>v=.int .i64 i,fun v _=>v=.pointer (some ⟨X,o+i * 3,none⟩),fun v _=>v=.agg #[.int .i64 a,.int .i64 b,.int .i64 z],fun v _=>v=.slice (some ⟨Y,p,none⟩) n d,fun v _=>v=.int .i64 i,fun v _=>v=.pointer (some ⟨Y,p+i * 3,none⟩),fun v _=>v=.agg #[.int .i64 a,.int .i64 b,.int .i64 z],fun v _=>v=.bool false] [] (fun _ _ _ ns=>ns=ms) (by kernel_rfl) (by kernel_rfl) (by decide) hS rfl ?last (fun _ _ _ _ _ _ h=>h) (fun _ _ _ _ _ _ h=>h) ?plain ?step ?fin
    case last=>exact bL
    case plain=>(repeat' (first|exact trivial|apply And.intro)) <;>  (refine .inr ?_;intro s vals J bs w hstop hg hJ hS hG;clear hG;refine bS ?_;intro K HK;(first|(refine bJ ?_)|(go_wp2_with (fail)));exact bO)
    case step=>trivial
    case fin =>
     intro vals J9 bs w hJ hg hS9 hG;have hG:bs=ms:=hG;rw [hG] at hS9;have hS2:=hS9.less hJ;clear hJ hG hS9 hS;simp only [yB,yC,Nat.reduceAdd,Below_,Facts,zH,zI,jGb] at hg;simp only [yB,yC,Nat.reduceAdd,Qb,Qe,Qd,zA,zB,zK,jC,Act.put,zE,zF,zG,hg];refine ⟨?_⟩;clear hg;go_wp2_with fail
     exact ⟨⟨i+1,by omega,by go_num,hS2⟩,by simp [intOf];omega⟩
  . have ii:¬ (i:Int)<(n:Int):=by omega
    go_wp2_with fail
    go_ret;exact ⟨rfl,hS⟩
end
end
section
def jn (c:Nat):List (List Nat)->List Nat
 | []=>[]
 | [a]=>a
 | a::b::r=>a ++ c::jn c (b::r)
theorem jn_cons (c:Nat) (a:List Nat) {l:List (List Nat)} (h:0<l.length):jn c (a::l)=a ++ c::jn c l:=by
 match l,h with
 | b::r,_=>rfl
theorem jn_splC (c:Nat) (l:List Nat):jn c (Qw c l)=l:=by
 induction h:l.length using Nat.strongRecOn generalizing l with
 | ind n ih =>
   subst h;by_cases hc:c ∈ l
   . obtain ⟨a,b,rfl,ha⟩:=first_cut c l hc
     rw [splC_hit c b a ha,jn_cons c a (splC_pos c b),ih b.length (by simp;omega) b rfl]
   . rw [splC_miss c l hc]
     rfl
theorem jn_flat (c:Nat):∀ (a:List Nat) (l:List (List Nat)),jn c (a::l)=a ++ l.flatMap (c :: ·)
 | a,[]=>by simp [jn]
 | a,b::r=>by rw [jn_cons c a (by simp),jn_flat c b r];simp
theorem numO_txt {hi:Int} {w:List Nat} {x:Int} (h:numO hi w=some x):txt x=w:=by
 unfold numO at h;split at h
 . rename_i hc
   injection h with h
   rw [<- h];exact txt_sval _ hc.1
 . cases h
theorem numsO_txt {hi:Int}:∀ {ws:List (List Nat)} {xs:List Int},Qy hi ws=some xs->xs.map txt=ws
 | [],xs,h=>by injection h with h;subst h;rfl
 | w::ws,xs,h=>by
   rw [Qy] at h;cases hn:numO hi w with
   | none=>rw [hn] at h;cases h
   | some y =>
     rw [hn] at h;simp only at h;cases hs:Qy hi ws with
     | none=>rw [hs] at h;cases h
     | some ys =>
       rw [hs] at h;simp only [Option.map_some,jEb] at h;subst h;rw [jD,numO_txt hn,numsO_txt hs]
theorem rowO_txt {hi:Int} {l:List Nat} {r:G.Rw3} (h:rowO hi l=some r):l ++ [10]=rowT r/\(0<=r.v/\r.v<=hi)/\(0<=r.lo/\r.lo<=hi)/\(0<=r.hi/\r.hi<=hi):=by
 unfold rowO at h;cases hs:Qy hi (Qw 32 l) with
 | none=>rw [hs] at h;cases h
 | some xs =>
   rw [hs] at h
   match xs,hs,h with
   | [a,b,c],hs,h =>
     injection h with h
     subst h;have h2:=numsO_txt hs;have h3:=numsO_fit hs;refine ⟨?_,h3 a (by simp),h3 b (by simp),h3 c (by simp)⟩;have h4:=jn_splC 32 l;rw [<- h2] at h4;rw [<- h4];simp [jn,rowT]
theorem readO_txt {hi:Int}:∀ (ls:List (List Nat)) (rows rw':List G.Rw3) (rs:List Int),Kr hi ls rows=some (rw',rs) ->
  ∃ new,rw'=rows ++ new/\jn 10 ls=textD new rs/\(∀ r ∈ new,(0<=r.v/\r.v<=hi)/\(0<=r.lo/\r.lo<=hi)/\(0<=r.hi/\r.hi<=hi))/\(∀ e ∈ rs,0<=e/\e<=hi)/\G.rightB rw' rs=true
 | [],rows,rw',rs,h=>by cases h
 | [l],rows,rw',rs,h=>by cases h
 | l::l2::rest,rows,rw',rs,h=>by
   rw [Kr] at h;by_cases c:(Qw 32 l).head?=some Xu
   . rw [jAa c] at h
     by_cases c2:rest=[]/\l2=[]
     . rw [jAa c2] at h
       obtain ⟨rfl,rfl⟩:=c2;cases hs:Qy hi (Qw 32 l).tail with
       | none=>rw [hs] at h;cases h
       | some xs =>
         rw [hs] at h;have h:(if G.rightB rows xs=true then some (rows,xs) else none)=some (rw',rs):=h;split at h
         . rename_i hb
           injection h with h
           injection h with h1 h2
           subst h1;subst h2;refine ⟨[],by simp,?_,by simp,numsO_fit hs,hb⟩;have h4:=jn_splC 32 l;cases hq:Qw 32 l with
           | nil=>rw [hq] at c;cases c
           | cons a t =>
             rw [hq] at c hs h4;simp only [List.head?_cons,jEb] at c;subst c;simp only [List.tail_cons] at hs;rw [<- numsO_txt hs,jn_flat] at h4;rw [<- h4];have e:(fun a=>32::txt a)=Yj:=rfl;simp [jn,textD,Xu,e,List.flatMap_map]
         . cases h
     . rw [jAb c2] at h
       cases h
   . rw [jAb c] at h
     cases hr:rowO hi l with
     | none=>rw [hr] at h;cases h
     | some r =>
       rw [hr] at h;have h:Kr hi (l2::rest) (rows ++ [r])=some (rw',rs):=h;obtain ⟨new,h1,h2,h3,h4,h5⟩:=readO_txt (l2::rest) (rows ++ [r]) rw' rs h;obtain ⟨r1,r2⟩:=rowO_txt hr;refine ⟨r::new,by rw [h1];simp,?_,?_,h4,h5⟩
       . rw [jn_cons 10 l (by simp),h2]
         show l ++ ([10] ++ textD new rs)=textD (r::new) rs
         rw [<- jFb,r1];simp [textD]
       . intro q hq
         rcases jBa.1 hq with rfl|hq
         . exact r2
         . exact h3 q hq
theorem flat_many {α:Type} (f:α->List Nat) (hf:∀ x,0<(f x).length):∀ l:List α,l.length<=(l.flatMap f).length
 | []=>jCa _
 | x::l=>by
   have h1:=flat_many f hf l;have h2:=hf x;rw [jO,yG,yB];omega
theorem textD_many (rows:List G.Rw3) (rs:List Int):rows.length<=(textD rows rs).length/\rs.length<=(textD rows rs).length:=by
 have h1:=flat_many rowT (fun x=>by unfold rowT;simp only [yG,yB,yC];omega) rows;have h2:=flat_many Yj (fun x=>by unfold Yj;simp) rs;unfold textD;simp only [yG,yB,yC];omega
theorem read_law {s:ByteArray} (hs:s.size<=1000) {rows:List G.Rw3} {rs:List Int} (h:Kr 8193 (Qw 10 (lst s)) []=some (rows,rs)) :
  textD rows rs=lst s/\G.rightB rows rs=true/\(∀ r ∈ rows,RowFit r)/\(∀ e ∈ rs,-9223372036854775808<=e/\e<9223372036854775808)/\rows.length<=1000/\rs.length<=1000:=by
 obtain ⟨new,h1,h2,h3,h4,h5⟩:=readO_txt _ _ _ _ h;rw [List.nil_append] at h1;subst h1;rw [jn_splC] at h2;obtain ⟨n1,n2⟩:=textD_many rows rs;rw [<- h2,Qi] at n1 n2;refine ⟨h2.symm,h5,fun r hr=>?_,fun e he=>?_,by omega,by omega⟩
 . have:=h3 r hr
   unfold RowFit;omega
 . have:=h4 e he
   omega
theorem read_same {s:ByteArray} (hs:s.size<=1000):Kr 1099511627776 (Qw 10 (lst s)) []=Kr 8193 (Qw 10 (lst s)) [] :=
 readO_hi (by decide) _ _ (by
  have h:=(splC_size 10 (lst s)).1;rw [Qi] at h;simp only [yC];omega)
end
section
open Go.RowKit
theorem lives_any (W:World):Calls Tryz.prog 5 #[] W fun e w'=>e=.returned (.bool true)/\Below W.heap.size W w':=by
 obtain ⟨m1,m2,m3,m4,x,y,f,g,q,L⟩:=G.lives_data;obtain ⟨k1,k2,k3,k4,k5,k6⟩:=lv_rok L;have hS:=Sat.start W;have HNew:Hid (∀ w:World,Sat W (Qa W) [] w->Calls Tryz.prog 17 #[.int .i64 2,.int .i64 400] w fun e w'=>∃ X p,e=.returned (.tuple #[vPt X,.int .i64 0])/\MgAt X (G.Mg.new 2 400) p/\Sat W (Qa W) [p] w'):=yH fun w h=>ddnew_any 2 400 (by decide) (by decide) (by decide) h
 have HV0:Hid (∀ (w:World) (D:Nat) (p:PH),MgAt D (G.Mg.new 2 400) p->Sat W (Qa W) [p] w->Calls Tryz.prog 18 #[vPt D,.int .i64 0] w fun e w'=>e=.returned (.tuple #[nv x,.int .i64 0])/\∃ p',MgAt D m1 p'/\Sat W (Qa W) [p'] w'):=yH fun w D p hA h=>wvar_any (S:=G.S0) L.s0 (by decide) (by decide) (x:=0) (by decide) L.v0 hA h
 have HV1:Hid (∀ (w:World) (D:Nat) (p:PH),MgAt D m1 p->Sat W (Qa W) [p] w->Calls Tryz.prog 18 #[vPt D,.int .i64 1] w fun e w'=>e=.returned (.tuple #[nv y,.int .i64 0])/\∃ p',MgAt D m2 p'/\Sat W (Qa W) [p'] w'):=yH fun w D p hA h=>wvar_any (S:=G.S0) L.s1 (by have:=L.h1.1;omega) (by have:=L.h1.2;omega) (x:=1) (by decide) L.v1 hA h
 have HAnd:=yH (fun (w:World) (D XS:Nat) (p:PH) (hA:MgAt D m2 p) (h:Sat W (Qa W) (PH.one XS (.cells #[nv x,nv y] 3)::[p]) w)=>lv_and L hA h);have HRows:=yH (fun (w:World) (D XS:Nat) (p:PH) (hA:MgAt D m3 p) (h:Sat W (Qa W) (PH.one XS (.cells #[nv f] 3)::[p]) w)=>lv_rows L hA h);have HLd:=yH (fun (w:World) (D:Nat) (p mR mr:PH) (vR:Value) (A:Option Addr) (c:Nat) (o1:OwnP mR 63 3 vR q.rows.length (q.rows.flatMap rowC)) (o2:OwnP mr 3 1 (.slice A 1 c) 1 [nv 4]) (hA:MgAt D m3 p) (h:Sat W (Qa W) (p::mR::mr::[]) w)=>lv_load L o1 o2 hA h);have hl2:q.rows.length=2:=by rw [L.rows];rfl
 have HTx:Hid (∀ (w:World) (mR mr:PH) (vR:Value) (A:Option Addr) (c:Nat),OwnP mR 63 3 vR q.rows.length (q.rows.flatMap rowC)->OwnP mr 3 1 (.slice A 1 c) 1 [nv 4]->mR.le (Qa w)->mr.le (Qa w)->Calls Tryz.prog 8 #[vR,.slice A 1 c] w fun e w'=>e=.returned (.tuple #[.string ⟨#[49,32,49,32,48,10,48,32,49,32,50,10,114,111,111,116,115,32,52,10]⟩,.int .i64 0])/\Below w.heap.size w w'):=by
  refine yH fun w mR mr vR A c o1 o2 h1 h2=>?_
  refine (dtext_any (rows:=q.rows) (roots:=[4]) ((OwnP.row3 o1).le h1).o ((OwnP.ints (l:=[4]) o2).le h2).ro (by rw [hl2];decide) (by simp) k1 (by simp)).mono ?_;rintro e w' ⟨⟨str,er,rfl,h3,h4⟩,h5⟩;have h3':lst str=textD q.rows [4]:=by rw [h3];unfold TextR;rw [jAa k2]
  rw [k6] at h3';obtain rfl:=lst_inj h3';rw [jAa k2] at h4;subst h4;exact ⟨rfl,h5⟩
 have HSm:=yH (fun (w:World) (D:Nat) (hM:MgR (Qa w) D m4)=>msame_any (w:=w) (f:Int) (g:Int) hM);have hsm:m4.same (f:Int) (g:Int)=(true,(m4.same (f:Int) (g:Int)).2):=by rw [<- L.sm]
 have HEv:Hid (∀ (w:World) (mR:PH) (vR:Value) (XB:Nat),OwnP mR 63 3 vR q.rows.length (q.rows.flatMap rowC)->mR.le (Qa w)->(PH.one XB (.cells #[.bool true,.bool true] 4)).le (Qa w)->Calls Tryz.prog 20 #[vR,.int .i64 4,.slice (some ⟨XB,0,none⟩) 2 2] w fun e w'=>e=.returned (.tuple #[.bool true,.int .i64 0])/\Below w.heap.size w w'):=by
  refine yH fun w mR vR XB o1 h1 h2=>?_
  refine (deval_any (rows:=q.rows) (env:=[true,true]) (e:=4) ((OwnP.row3 o1).le h1).o ⟨_,_,rfl,fun _=>⟨XB,0,rfl,fun i b hi=>?_⟩⟩ (by rw [hl2];decide) (by decide) k1 (by decide) (by decide)).mono ?_
  . rw [jR]
    refine PH.at_le h2 (Qc ?_)
    match i,hi with
    | 0,hi=>cases hi;rfl
    | 1,hi=>cases hi;rfl
    | i+2,hi=>simp at hi
  . rintro e w' ⟨rfl,h5⟩
    rw [jAa k2];exact ⟨by rw [show ((4:Int).toNat)=4 from rfl,k5],h5⟩
 rw [hsm] at HSm;clear hsm k1 k2 k3 k4 k5 k6 hl2 L;generalize (m4.same (f:Int) (g:Int)).2=es at *
 go_enter Tryz.func5,Tryz.ntmps5;go_wp2_with (first
  | (go_at_call 17;(with_reducible refine yI (HNew.out _ hS) ?_);clear hS;rintro e w ⟨D,p0,rfl,hA,hS⟩;have HA0:=yH hA;clear hA)
  | (go_at_call 18;first|((with_reducible refine yI (HV0.out _ _ _ HA0.out hS) ?_);clear hS;rintro e w ⟨rfl,p1,hA,hS⟩;have HA1:=yH hA;clear hA)|((with_reducible refine yI (HV1.out _ _ _ HA1.out hS) ?_);clear hS;rintro e w ⟨rfl,p2,hA,hS⟩;have HA2:=yH hA;clear hA))
  | (go_at_call 19;(with_reducible refine yI (HAnd.out _ _ _ _ HA2.out hS) ?_);clear hS;rintro e w ⟨rfl,p3,hA,hS⟩;have HA3:=yH hA;clear hA)
  | (go_at_call 13;(with_reducible refine yI (HRows.out _ _ _ _ HA3.out hS) ?_);clear hS;rintro e w ⟨vR,A,c,rfl,p4,mR,mr,o1,o2,hA,hS⟩;obtain ⟨Z,c2,hz,hz2⟩:=(OwnP.num (l:=[4]) o2).2 (by simp);injection hz with hz3 hz4 hz5;subst hz3;have HZ:=yH (hz2 0 4 rfl);clear hz2 hz4 hz5;have HA4:=yH hA;have HO1:=yH o1;have HO2:=yH o2;clear hA o1 o2)
  | (go_at_call 8;(with_reducible refine bB hS (HTx.out _ _ _ _ _ _ HO1.out HO2.out (hS.mle (k:=1) rfl) (hS.mle (k:=2) rfl)) ?_);clear hS;intro w2 hS)
  | (go_at_call 15;(with_reducible refine yI (HLd.out _ _ _ _ _ _ _ _ HO1.out HO2.out HA4.out hS) ?_);clear hS;rintro e w ⟨X,c',rfl,p5,mo,hx,hA,hS⟩;have HA5:=yH hA;have HX:=yH hx;clear hA hx)
  | ((with_reducible refine Qp ?_);first|(refine' ldP1 (v:=_) (.inr (List.Mem.tail _ (List.Mem.head _))) hS rfl rfl Kl rfl HX.out ?_)|(refine' ldP1 (v:=_) (.inr (List.Mem.tail _ (List.Mem.tail _ (List.Mem.tail _ (List.Mem.head _))))) hS rfl rfl Kl rfl HZ.out ?_);(try simp only [Act.put,zE,zF,zG]))
  | (go_at_call 16;with_reducible refine bC (HSm.out _ _ (HA5.out.read.le (hS.mle (k:=0) rfl))) ?_)
  | (go_at_call 20;(with_reducible refine bB hS (HEv.out _ _ _ _ HO1.out (hS.mle (k:=3) rfl) (hS.mle (k:=0) rfl)) ?_);clear hS;intro w2 hS)
  | (refine aN 44 ?_;clear hS;intro XS w hS)|(refine aN 51 ?_;clear hS;intro XT w hS)|(refine aN 103 ?_;clear hS;intro XB w hS)|(refine aG ?_))
 go_ret;exact ⟨rfl,(hS.sub (List.nil_sublist _)).end_ (PH.le.refl _)⟩
end
section
open Go.RowKit
theorem dreads_any (s:ByteArray) (W:World) (hI:MaxIn (Qa W)):Calls Tryz.prog 3 #[.string s] W fun e w'=>e=.returned (.bool true)/\Below W.heap.size W w':=by
 have HLv:=yH lives_any;have hS:=Sat.start W;by_cases hL:(1000<s.size/\s.size<=65536)\/65546<s.size
 . have hcs:((s.size:Int) > 1000/\(s.size:Int)<=65536)\/((s.size:Int) > 1000/\¬ (s.size:Int)<=65536/\(s.size:Int) > 65546):=by omega
   clear hL hI;rcases hcs with ⟨h1,h2⟩|⟨h1,h2,h3⟩
   all_goals
    go_enter Tryz.func3,Tryz.ntmps3;go_wp2_with (go_at_call 5;(with_reducible refine bB hS (HLv.out _) ?_);clear hS;intro w2 hS)
    go_ret;exact ⟨rfl,hS.end_ (PH.le.refl _)⟩
 . have HD:=yH (fun (w:World) (h:Sat W (Qa W) [] w)=>dread_any s hI (by omega) h)
   have HR:=yH (fun (w:World) (J:PH) (h:Sat W J [] w)=>rread_any (I:=J) s (by omega) h);have hcs:(¬ (s.size:Int) > 1000/\¬ (s.size:Int) > 65546)\/((s.size:Int) > 1000/\¬ (s.size:Int)<=65536/\¬ (s.size:Int) > 65546):=by omega
   have HL:=yH hL;clear hL hI;have HRow:=yH (fun (w:World) (J:PH) (u v:Value) (l:List G.Rw3) (hu:Row3o J u l) (hv:Row3o J v l) (hl:l.length<=1000) (h:Sat W J [] w)=>rowsame_any hu hv (by omega) h);have HInt:=yH (fun (w:World) (J:PH) (u v:Value) (l:List Int) (hu:IntRo J u l) (hv:IntRo J v l) (hl:l.length<=1000) (h:Sat W J [] w)=>isame5_any hu hv (by omega) h);obtain ⟨R,hR⟩:∃ R,(if 65536<s.size then none else Kr 8193 (Qw 10 (lst s)) [])=R:=⟨_,rfl⟩;have hR2:(if 65536<s.size then none else Kr 1099511627776 (Qw 10 (lst s)) [])=R:=by
    rw [<- hR];split
    . rfl
    . exact read_same (by have:=HL.out;omega)
   rw [hR] at HD;rw [hR2] at HR;clear hR2;cases R with
   | none =>
     clear hR HL;obtain ⟨c,hc,hc2⟩:∃ c:Int,(if 65536<s.size then 4 else 3)=c/\(c == 0)=false:=⟨_,rfl,by split <;> rfl⟩;rw [hc] at HD HR;clear hc;have HD1:Hid (∀ w:World,Sat W (Qa W) [] w->Calls Tryz.prog 6 #[.string s] w fun e w'=>∃ u v J,e=.returned (.tuple #[u,v,.int .i64 c])/\(Qa W).le J/\Row3R J u []/\IntRo J v []/\Sat W J [] w'):=yH HD.out;have HR1:Hid (∀ (w:World) (J:PH),Sat W J [] w->Calls Tryz.prog 7 #[.string s] w fun e w'=>∃ u v J',e=.returned (.tuple #[u,v,.int .i64 c])/\J.le J'/\Row3R J' u []/\IntRo J' v []/\Sat W J' [] w'):=yH HR.out;clear HD HR;rcases hcs with ⟨h1,h2⟩|⟨h1,h2,h3⟩
     all_goals
      go_enter Tryz.func3,Tryz.ntmps3;go_wp2_with (first|(go_at_call 6;(with_reducible refine yI (HD1.out _ hS) ?_);clear hS;rintro e w2 ⟨u,v,J,rfl,hJ,hu,hv,hS⟩)|(go_at_call 7;(with_reducible refine yI (HR1.out _ _ hS) ?_);clear hS;rintro e w2 ⟨u2,v2,J2,rfl,hJ2,hu2,hv2,hS⟩)|(go_at_call 9;(with_reducible refine yI (HRow.out _ _ _ _ _ (hu.o.le hJ2) hu2.o (jCa _) hS) ?_);clear hS;rintro e w2 ⟨rfl,hS⟩)|(go_at_call 10;(with_reducible refine yI (HInt.out _ _ _ _ _ (hv.le hJ2) hv2 (jCa _) hS) ?_);clear hS;rintro e w2 ⟨rfl,hS⟩)|(go_at_call 5;(with_reducible refine bB hS (HLv.out _) ?_);clear hS;intro w2 hS))
      go_ret;exact ⟨rfl,hS.end_ (hJ.trans hJ2)⟩
   | some p =>
     obtain ⟨rows,rs⟩:=p;have hsm:s.size<=1000:=by
      by_cases hb:65536<s.size
      . rw [jAa hb] at hR;cases hR
      . have:=HL.out;omega
     rw [jAb (by omega)] at hR;obtain ⟨t1,t2,t3,t4,t5,t6⟩:=read_law hsm hR;have HT:Hid (∀ (w:World) (J:PH) (u v:Value),Row3o J u rows->IntRo J v rs->Sat W J [] w->Calls Tryz.prog 8 #[u,v] w fun e w'=>e=.returned (.tuple #[.string s,.int .i64 0])/\Below w.heap.size w w'):=yH fun w J u v hu hv h=>by
      refine (dtext_any (hu.le h.ile) (hv.le h.ile) (by omega) t6 t3 t4).mono ?_;rintro e w' ⟨⟨str,er,rfl,h1,h2⟩,hb⟩;rw [t2,jAa rfl] at h2;unfold TextR at h1;rw [t2,jAa rfl,t1] at h1;rw [lst_inj h1,h2];exact ⟨rfl,hb⟩
     have h1:¬ (s.size:Int) > 1000:=by omega
     have h2:¬ (s.size:Int) > 65546:=by omega
     clear hR HL hcs hsm t1 t2 t3 t4;have HD1:Hid (∀ w:World,Sat W (Qa W) [] w->Calls Tryz.prog 6 #[.string s] w fun e w'=>∃ u v J,e=.returned (.tuple #[u,v,.int .i64 0])/\(Qa W).le J/\Row3R J u rows/\IntRo J v rs/\Sat W J [] w'):=yH HD.out;have HR1:Hid (∀ (w:World) (J:PH),Sat W J [] w->Calls Tryz.prog 7 #[.string s] w fun e w'=>∃ u v J',e=.returned (.tuple #[u,v,.int .i64 0])/\J.le J'/\Row3R J' u rows/\IntRo J' v rs/\Sat W J' [] w'):=yH HR.out;clear HD HR;go_enter Tryz.func3,Tryz.ntmps3;go_wp2_with (first|(go_at_call 6;(with_reducible refine yI (HD1.out _ hS) ?_);clear hS;rintro e w2 ⟨u,v,J,rfl,hJ,hu,hv,hS⟩)|(go_at_call 7;(with_reducible refine yI (HR1.out _ _ hS) ?_);clear hS;rintro e w2 ⟨u2,v2,J2,rfl,hJ2,hu2,hv2,hS⟩)|(go_at_call 8;(with_reducible refine bB hS (HT.out _ _ _ _ (hu.o.le hJ2) (hv.le hJ2) hS) ?_);clear hS;intro w2 hS)|(go_at_call 9;(with_reducible refine yI (HRow.out _ _ _ _ _ (hu.o.le hJ2) hu2.o t5 hS) ?_);clear hS;rintro e w2 ⟨rfl,hS⟩)|(go_at_call 10;(with_reducible refine yI (HInt.out _ _ _ _ _ (hv.le hJ2) hv2 t6 hS) ?_);clear hS;rintro e w2 ⟨rfl,hS⟩)|(go_at_call 5;(with_reducible refine bB hS (HLv.out _) ?_);clear hS;intro w2 hS))
     go_ret;exact ⟨rfl,hS.end_ (hJ.trans hJ2)⟩
end
section
open Go.ChangeShapes Go.WideShapes Go.ChangeAt Go.RowKit
theorem handed_and_shaped {H:Type} {enc:TypeId × Value->H} {a:Assume} {C:Checked} {os:Os} {f:FuncId} {fn:Func} {s:ChangeSpec} {conds:List PathCond} {apart fresh handsOn again:Bool} {X:World->Array Value->Prop}
  (hX:∀ (w w':World) (args:Array Value),w.heap=w'.heap->X w args->X w' args)
  (own:ownKnob C.prog.godebug=none) (started:os.Started) (noInit:C.prog.inits.idxOf? f=none) (hfn:C.prog.funcs[f]?=some fn)
  (witness:∃ (w:World) (tape:Tape) (i:Input),w.os=os/\(w.forCall tape i).Shaped C.prog/\i.vars=[]/\Input.okWide C.prog (w.forCall tape i) .any w.heap.size f i /\
    ((s.pre enc C.prog fn conds apart (w.forCall tape i).memory i.args/\X (w.forCall tape i).memory i.args)/\sizedMet enc C.prog fn (OpenSpec.ofChange s) apart (w.forCall tape i).memory i.args)/\a.holds C.prog (lone (Frame.enter C.prog f i.args .normal) [] (w.forCall tape i)))
  (contract:∀ (W:World) (base:Nat) (args:Array Value) (ds gs:List (DataW H)) (before:List MemPlace),
    (∀ (j:Nat) t v,fn.params[j]?=some t->args[j]?=some v->Value.okWide C.prog W .any base t v) ->
    DataW.Whole enc C.prog fn.params.toList s.vars apart W args.toList ds gs before ->
    conds.all (PathCond.test C.prog ⟨fn.params.toList,ds,s.plain.varTypes C.prog,gs⟩)=true ->
    (DataW.weightsEach C.prog (fn.params.toList ++ s.plain.varTypes C.prog) (ds ++ gs)).all (·<=reachBytes)=true->X W args->W.ShapedOpen C.prog ->
    a.holds C.prog (lone (Frame.enter C.prog f args .normal) [] W) ->
    Calls C.prog f args W fun e W'=>∃ v,e=.returned v/\s.post enc C.prog fn apart fresh handsOn again W args v W') :
  ReturnsInHanded a C os f .any (fun w args=>(s.pre enc C.prog fn conds apart w args/\X w args)/\sizedMet enc C.prog fn (OpenSpec.ofChange s) apart w args) (s.post enc C.prog fn apart fresh handsOn again):=by
 refine returnsInHanded_of_calls own started noInit witness ?_;intro w tape i _ hsh _ hok hpre hholds;obtain ⟨_,_,_,fn',hfn',_,_,_,_,hval⟩:=hok;have e:fn'=fn:=Option.some.inj (hfn'.symm.trans hfn);subst e;obtain ⟨⟨⟨ds,gs,before,hw,hc⟩,hx⟩,hz⟩:=hpre;have hw':=DataW.Whole.of_heap (w':=w.forCall tape i) (by rfl) hw;refine (contract (w.forCall tape i) w.heap.size i.args ds gs before hval hw' hc (hz.weights hw) (hX _ _ _ (by rfl) hx) hsh hholds).mono fun e W' ⟨v,he,hp⟩=>?_
 subst he;exact ChangeSpec.post_blind hp
theorem heap_cell {W:World} {b o:Nat} {v:Value} (h:W.cell? ⟨b,o,none⟩=some v):(Qa W).at b o=some v:=by
 unfold World.cell? at h;unfold PH.at Qa;cases hw:W.heap[b]? with
 | none=>rw [hw] at h;cases h
 | some ob =>
   rw [hw] at h;cases ob <;> first|(cases h)|(simpa using h)
theorem maxIn_of {W:World} (h:W.ShapedOpen Tryz.prog):MaxIn (Qa W):=by
 obtain ⟨m,hm⟩:=Go.Proofs.cell_of_shapedOpen_int (P:=Tryz.prog) (g:=0) (zero := #[.int .i64 0]) (t:=3) h (of_decide_eq_true (by kernel_rfl)) (by kernel_rfl) rfl (by kernel_rfl) (by kernel_rfl) Tryz.underlying3;exact ⟨m,heap_cell hm⟩
end
end Go.Proofs.YtidamcdklgfogaaGreatDoor
