import Derived.Test.YtidamcdklgfogaaGreatDoorUab
import Derived.Laws.OwnMore
import Derived.Deep.AppendLies
import Derived.Maps.AppendAt
import Derived.Deep.Slices
import Derived.Deep.Fields
import Derived.RangeFuncNested
import Derived.RangeFuncBound
import Derived.RangeFuncCalls
import Derived.RangeFuncLeaves
import Derived.OwnWalkIn
set_option linter.unusedVariables false
set_option linter.unusedSimpArgs false
namespace Go.Proofs.YtidamcdklgfogaaGreatDoor
section
open Go.RowKit
theorem block_of_add (a:Addr) (n:Nat):(a.add n).block=a.block:=by unfold Addr.add;split <;> rfl
def Reads (w:World) (B size:Nat) (A:Option Addr) (n:Nat) (xs:List Value):Prop :=
 xs.length=n * size/\(0<n->∃ ad,A=some ad/\ad.block<B/\∀ j u,xs[j]?=some u->w.cell? (ad.add j)=some u)
section
variable {w w':World} {B B' size n:Nat} {A:Option Addr} {xs:List Value}
theorem Reads.none_:Reads w B size A 0 []:=⟨by simp,fun h=>absurd h (by omega)⟩
theorem Reads.at_ {k:Nat} (h:Reads w B 1 A n xs) (hk:k<n):∃ ad u,A=some ad/\ad.block<B/\xs[k]?=some u/\w.cell? (ad.add k)=some u:=by
 obtain ⟨ad,e,hb,hc⟩:=h.2 (by omega);have hl:k<xs.length:=by have:=h.1;omega
 exact ⟨ad,xs[k],e,hb,yA hl,hc k _ (yA hl)⟩
theorem Reads.keep (h:Reads w B size A n xs) (hk:∀ p:Addr,p.block<B->w'.cell? p=w.cell? p):Reads w' B size A n xs :=
 ⟨h.1,fun hn=>by
   obtain ⟨ad,e,hb,hc⟩:=h.2 hn;exact ⟨ad,e,hb,fun j u hu=>(hk _ (by rw [block_of_add];exact hb)).trans (hc j u hu)⟩⟩
theorem Reads.alloc (h:Reads w B size A n xs) (hB:B<=w.heap.size) (o:Obj):Reads (w.alloc o) B size A n xs:=h.keep fun p hp=>World.cell?_alloc_lt w o p (by omega)
theorem Reads.setCell (h:Reads w B size A n xs) {p:Addr} (hB:B<=p.block) (u:Value):Reads (w.setCell p u) B size A n xs :=
 h.keep fun q hq=>World.cell?_setCell_other w p q u (fun e=>by subst e;omega)
end
def Blk (w:World) (g:Nat) (t:TypeId) (cs:Array Value):Prop:=w.heap[g]?=some (.cells cs t (0,0))
section
variable {w w':World} {g:Nat} {t:TypeId} {cs:Array Value}
theorem Blk.lt (h:Blk w g t cs):g<w.heap.size:=by
 rcases jY g w.heap.size with hlt|hge
 . exact hlt
 . unfold Blk at h;rw [Array.getElem?_eq_none hge] at h;cases h
theorem Blk.cell (h:Blk w g t cs) (i:Nat):w.cell? ⟨g,i,none⟩=cs[i]?:=cell_of_row w g i cs t (0,0) h
theorem Blk.frozen (h:Blk w g t cs) (i:Nat):w.frozen? ⟨g,i,none⟩=false:=by
 unfold Blk at h;simp [World.frozen?,h]
theorem Blk.new (w:World) (t:TypeId) (cs:Array Value):Blk (w.alloc (.cells cs t)) w.heap.size t cs:=heap_alloc_new w _
theorem Blk.alloc (h:Blk w g t cs) (o:Obj):Blk (w.alloc o) g t cs:=(Below.heap_alloc w o g h.lt).trans h
end
section
variable {P:Program} (w:World)
end
def Own (w:World) (base:Nat) (e:TypeId) (size:Nat) (v:Value) (n:Nat) (xs:List Value):Prop :=
 xs.length=n * size/\((v=.slice none 0 0/\n=0) \/
  ∃ g cap cur,v=.slice (some ⟨g,0,none⟩) n cap/\base<=g/\w.heap[g]?=some (.cells cur e (0,0))/\n<=cap/\cap<=maxLen/\cap * size<=cur.size/\cur.toList.take (n * size)=xs)
section
variable {w w':World} {base e size n:Nat} {v:Value} {xs:List Value}
theorem Own.ofRow (h:w.ownsRow base e size v n xs):Own w base e size v n xs:=by
 refine ⟨h.1,?_⟩;rcases h.2 with h|⟨g,cap,cur,h1,h2,h3,h4,h5,h6,h7⟩
 . exact .inl h
 . exact .inr ⟨g,cap,cur,h1,h2,h3,h4,h5,by omega,h7⟩
theorem Own.nil (w:World) (base e size:Nat):Own w base e size (.slice none 0 0) 0 []:=⟨by simp,.inl ⟨rfl,rfl⟩⟩
theorem Own.lt (h:Own w base e size v n xs):∀ k,v.ownBlock=some k->base<=k/\k<w.heap.size:=by
 intro k hk;rcases h.2 with ⟨rfl,_⟩|⟨g,cap,cur,rfl,hb,hg,_⟩
 . simp [Value.ownBlock] at hk
 . simp only [Value.ownBlock,jEb] at hk
   subst hk;exact ⟨hb,Blk.lt hg⟩
theorem Own.keep (h:Own w base e size v n xs) (hk:∀ g,v.ownBlock=some g->w'.heap[g]?=w.heap[g]?):Own w' base e size v n xs:=by
 refine ⟨h.1,?_⟩;rcases h.2 with h|⟨g,cap,cur,rfl,h2,h3,h4⟩
 . exact .inl h
 . exact .inr ⟨g,cap,cur,rfl,h2,(hk g rfl).trans h3,h4⟩
theorem Own.alloc (h:Own w base e size v n xs) (o:Obj):Own (w.alloc o) base e size v n xs:=h.keep fun g hg=>Below.heap_alloc w o g (h.lt g hg).2
end
section
variable {P:Program} (w:World)
theorem run_append_Own (base:Nat) (t ty e:TypeId) (i:TypeInfo) (z:Value) (size bytes:Nat) (ht:P.underlying t=some (.slice e)) (hi:P.info? e=some i) (hz:i.zero=some z)
  (hsize:i.size=size) (hby:i.bytes=bytes) (hzs:z.cells.size=size) (hsz:0<size)
  (v:Value) (n:Nat) (xs:List Value) (hown:Own w base e size v n xs)
  (a:Addr) (m c:Nat) (news:List Value) (hl:news.length=m * size) (hnews:∀ j u,news[j]?=some u->w.cell? (a.add j)=some u) (h1:∀ u ∈ news,u.oneCell'=true)
  (h63:n+m<=maxLen) (hbytes:(n+m) * bytes<=140737488355328) (hbase:base<=w.heap.size) :
  ∃ v' w',(Builtin.append_ #[t,t] ty #[v,.slice (some a) m c]).run P w=.ok v' w'/\Own w' base e size v' (n+m) (xs ++ news)/\w.grownBy w' v.ownBlock/\(v'.ownBlock=v.ownBlock\/v'.ownBlock=some w.heap.size):=by
 rcases hown.2 with ⟨rfl,rfl⟩|⟨g,cap,cur,rfl,hbg,hg,hnc,hcm,hcs,htake⟩
 . have hx:xs=[]:=jJa (by simpa using hown.1)
   subst hx;obtain ⟨v',w',hr,h2,h3,_,h5⟩:=run_append_own_at (P:=P) w base t ty e i z size bytes ht hi hz hsize hby hzs hsz _ 0 [] (World.ownsRow_nil w base e size) a m c news hl hnews h1 h63 hbytes hbase;exact ⟨v',w',hr,Own.ofRow h2,h3,h5⟩
 . by_cases hroom:n+m<=cap
   . subst hsize
     have hfit:n * i.size+news.length<=cur.size:=by
      rw [hl,<- kFb];exact jL (jU _ hroom) hcs
     have hr:=run_append_room (P:=P) w t ty e i ht hi g n cap cur hg a m c news hl hnews h1 hroom hfit;have hlen:(xs ++ news).length=(n+m) * i.size:=by rw [yG,hown.1,hl,kFb]
     refine ⟨_,_,hr,⟨hlen,.inr ⟨g,cap,_,rfl,hbg,setRow_heap w g cur _ e _ hg,hroom,hcm,?_,?_⟩⟩,⟨rfl,rfl,rfl,by simp,fun k _ hk=>setRow_other w g k _ (fun e=>hk (by simp [Value.ownBlock,e]))⟩,.inl rfl⟩
     . simp only [jSa,yG,jUa,kWb,Array.length_toList]
       omega
     . rw [htake,<- hlen]
       exact qBa
   . have hn:Own w base e size (.slice (some ⟨g,0,none⟩) n cap) n xs:=hown
     have hall:∀ j u,xs[j]?=some u->w.cell? ((⟨g,0,none⟩:Addr).add j)=some u:=by
      intro j u hu;have hj:j<n * size:=by rw [<- hown.1];exact (yE.1 hu).1
      have h0:(⟨g,0,none⟩:Addr).add j=⟨g,j,none⟩:=by
       unfold Addr.add;by_cases h0:j=0 <;> simp [h0]
      rw [h0,Blk.cell hg j,<- hu,<- htake,kIa hj];simp
     subst hsize;subst hby
     have hsmall:n+m<=9223372036854775807:=by simp only [maxLen] at h63;omega
     have hlen:(xs ++ news).length=(n+m) * i.size:=by rw [yG,hown.1,hl,kFb]
     have hr:=run_append_grow (P:=P) w t ty e i z ht hi hz ⟨g,0,none⟩ n cap xs hown.1 hall a m c news hl hnews (by omega) (by omega) (growslice_fits (by omega) hbytes);have hge:=grownCap_ge w (n+m) cap e;have hcm':grownCap w (n+m) cap e<=maxLen:=grownCap_le_maxLen w (n+m) cap e h63;refine ⟨_,_,hr,⟨hlen,.inr ⟨w.heap.size,_,_,rfl,hbase,heap_alloc_new w.drew _,hge,hcm',?_,?_⟩⟩,⟨rfl,rfl,rfl,by simp,fun k hk _=>Below.heap_alloc w.drew _ k hk⟩,.inr rfl⟩
     . simp only [Array.size_append,jSa,size_zeroCells,hzs,hown.1,hl,<- kFb]
       refine jU _ ?_;omega
     . simp only [Array.toList_append,jFb]
       rw [<- jFb,<- hlen];exact qBa
theorem wp_append_Own {o:Oper} {a:Act} {K:Act->World->Prop} {Q:Exit->Act->World->Prop} (s x:Operand) (t:TypeId)
  (ho:o.op=.call { callee:=.builtin .append,args := #[s,x],argTypes := #[t,t] })
  (base:Nat) (e:TypeId) (i:TypeInfo) (z:Value) (size bytes:Nat) (ht:P.underlying t=some (.slice e)) (hi:P.info? e=some i) (hz:i.zero=some z)
  (hsize:i.size=size) (hby:i.bytes=bytes) (hzs:z.cells.size=size) (hsz:0<size)
  (v:Value) (n:Nat) (xs:List Value) (hs:a.eval s=v) (hown:Own w base e size v n xs)
  (ad:Addr) (m c:Nat) (news:List Value) (hx:a.eval x=.slice (some ad) m c) (hl:news.length=m * size) (hnews:∀ j u,news[j]?=some u->w.cell? (ad.add j)=some u) (h1:∀ u ∈ news,u.oneCell'=true)
  (h63:n+m<=maxLen) (hbytes:(n+m) * bytes<=140737488355328) (hbase:base<=w.heap.size)
  (h:∀ v' w',Own w' base e size v' (n+m) (xs ++ news)->w.grownBy w' v.ownBlock->(v'.ownBlock=v.ownBlock\/v'.ownBlock=some w.heap.size)->K (a.put o.dst v') w'):o.wp P a w K Q:=by
 obtain ⟨v',w',hrun,h2,h3,h4⟩:=run_append_Own (P:=P) w base t o.type e i z size bytes ht hi hz hsize hby hzs hsz v n xs hown ad m c news hl hnews h1 h63 hbytes hbase;unfold Oper.wp execOp;simp only [ho,resolve,invoke,builtin,Sem.run_bind,Sem.run_pure,Result.andThen_ok,kQb,jD,jTb,hs,hx,hrun];exact h v' w' h2 h3 h4
end
end
section
open Go.RowKit
structure Chg (F F':List Nat) (w w':World):Prop where
 os:w'.os=w.os
 tape:w'.tape=w.tape
 output:w'.output=w.output
 size:w.heap.size<=w'.heap.size
 same:∀ b,b<w.heap.size->b ∉ F->w'.heap[b]?=w.heap[b]?
 fresh:∀ b,b ∈ F'->b ∈ F\/w.heap.size<=b
theorem Chg.refl (F:List Nat) (w:World):Chg F F w w:=⟨rfl,rfl,rfl,jBb _,fun _ _ _=>rfl,fun _ h=>.inl h⟩
theorem Chg.trans {F F' F'':List Nat} {a b c:World} (h:Chg F F' a b) (k:Chg F' F'' b c):Chg F F'' a c :=
 ⟨k.os.trans h.os,k.tape.trans h.tape,k.output.trans h.output,jL h.size k.size,
   fun x hx hn=>(k.same x (kAa hx h.size) (fun hm=>by
    rcases h.fresh x hm with h1|h1
    . exact hn h1
    . omega)).trans (h.same x hx hn),
   fun x hx=>by
    rcases k.fresh x hx with h1|h1
    . exact h.fresh x h1
    . exact .inr (jL h.size h1)⟩
theorem Chg.of_below {F:List Nat} {w w':World} (h:Below w.heap.size w w'):Chg F F w w' :=
 ⟨h.os,h.tape,h.output,h.size,fun b hb _=>h.block b hb,fun _ h=>.inl h⟩
theorem Chg.le {F F':List Nat} {w w':World} {B:Nat} (h:Chg F F' w w') (hF:∀ b ∈ F,B<=b) (hB:B<=w.heap.size):∀ b ∈ F',B<=b:=by
 intro b hb;rcases h.fresh b hb with h1|h1
 . exact hF b h1
 . omega
theorem Chg.alloc {F F':List Nat} {a w:World} (h:Chg F F' a w) (o:Obj):Chg F F' a (w.alloc o) :=
 h.trans (Chg.of_below ((Below.refl _ _).alloc (jBb _) o))
theorem Chg.setCell {F F':List Nat} {a w:World} (h:Chg F F' a w) {p:Addr} (hp:p.block ∈ F') (u:Value):Chg F F' a (w.setCell p u) :=
 h.trans ⟨rfl,rfl,rfl,by simp [World.setCell],fun b _ hn=>Below.heap_setCell w p u b (fun e=>hn (e ▸ hp)),fun _ h=>.inl h⟩
theorem Chg.from {F F' F₀:List Nat} {w w':World} (h:Chg F F' w w') (hf:∀ b ∈ F,b ∈ F₀):Chg F₀ F' w w' :=
 ⟨h.os,h.tape,h.output,h.size,fun b hb hn=>h.same b hb (fun hm=>hn (hf b hm)),fun b hb=>by
   rcases h.fresh b hb with h1|h1
   . exact .inl (hf b h1)
   . exact .inr h1⟩
theorem Chg.own {F F':List Nat} {w w':World} {base e size n:Nat} {v:Value} {xs:List Value} (h:Chg F F' w w') (ho:Own w base e size v n xs) (hn:∀ g,v.ownBlock=some g->g ∉ F):Own w' base e size v n xs :=
 ho.keep fun g hg=>h.same g (ho.lt g hg).2 (hn g hg)
theorem Chg.apart {F F':List Nat} {w w':World} (h:Chg F F' w w') {g:Nat} (hg:g<w.heap.size) (hn:g ∉ F):g ∉ F':=fun hm=>by
 rcases h.fresh g hm with h1|h1
 . exact hn h1
 . omega
end
section
open Go.ChangeShapes Go.WideShapes Go.ChangeAt Go.RowKit
def RL (w:World) (B size:Nat) (A:Option Addr) (n:Nat) (xs:List Value):Prop :=
 xs.length=n * size/\(0<n->∃ b o,A=some ⟨b,o,none⟩/\b<B/\∀ k,k<n * size->w.cell? ⟨b,o+k,none⟩=xs[k]?)
section
variable {w w':World} {B B' size n:Nat} {A:Option Addr} {xs:List Value}
theorem RL.at_ (h:RL w B size A n xs) (hn:0<n):∃ b o,A=some ⟨b,o,none⟩/\b<B/\∀ k,k<n * size->w.cell? ⟨b,o+k,none⟩=xs[k]?:=h.2 hn
theorem RL.keep (h:RL w B size A n xs) (hk:∀ b,b<B->w'.heap[b]?=w.heap[b]?):RL w' B size A n xs :=
 ⟨h.1,fun hn=>by
   obtain ⟨b,o,e,hb,hc⟩:=h.2 hn;exact ⟨b,o,e,hb,fun k hkn=>(World.cell?_of_block (w:=w) (a:=⟨b,o+k,none⟩) (hk b hb)).trans (hc k hkn)⟩⟩
theorem RL.alloc (h:RL w B size A n xs) (hB:B<=w.heap.size) (o:Obj):RL (w.alloc o) B size A n xs:=h.keep fun b hb=>Below.heap_alloc w o b (by omega)
end
section
variable {H:Type} {enc:TypeId × Value->H} {P:Program} {W:World} {base b0:Nat} {sp:Nat->Bool} {held:Bool} {r:Reach}
end
end
section
open Go.ChangeShapes Go.WideShapes Go.ChangeAt Go.RowKit
def Keeps (S:Nat->Prop) (A B:World):Prop:=A.heap.size<=B.heap.size/\∀ b,S b->B.heap[b]?=A.heap[b]?
theorem Keeps.refl (S:Nat->Prop) (A:World):Keeps S A A:=⟨jBb _,fun _ _=>rfl⟩
theorem Keeps.trans {S:Nat->Prop} {A B C:World} (h:Keeps S A B) (k:Keeps S B C):Keeps S A C:=⟨jL h.1 k.1,fun b hb=>(k.2 b hb).trans (h.2 b hb)⟩
theorem Keeps.sub {S T:Nat->Prop} {A B:World} (h:Keeps S A B) (k:∀ b,T b->S b):Keeps T A B:=⟨h.1,fun b hb=>h.2 b (k b hb)⟩
theorem Keeps.of_below {S:Nat->Prop} {n:Nat} {A B:World} (h:Below n A B) (hs:∀ b,S b->b<n):Keeps S A B:=⟨h.size,fun b hb=>h.block b (hs b hb)⟩
def Stays (K S:Nat->Prop) (W W':World):Prop:=(∀ b,K b->S b)/\∀ b,S b->K b\/(W.heap.size<=b/\b<W'.heap.size)
def Iter {α:Type} (P:Program) (g:Nat) (lb:Array Value) (encs:α->Array Value) (K:Nat->Prop) (xs:List α) (w:World):Prop :=
 ∀ (l:Nat) (J Jx:(Nat->Prop)->List α->World->Prop) (W:World),Keeps K w W->(∀ S,OwnFrom W.heap.size (J S))->(∀ S,OwnFrom W.heap.size (Jx S)) ->
   (∀ S pre x suf W1,xs=pre ++ x::suf->J S pre W1->YieldAt Fence.wide 0 P l (encs x) W1 fun e W'=>(e=.returned (.bool true)/\J S (pre ++ [x]) W'/\Keeps S W1 W')\/(e=.returned (.bool false)/\Jx S (pre ++ [x]) W'/\Keeps S W1 W')) ->
   (∀ S W',Below W.heap.size W W'->Stays K S W W'->J S [] W') ->
   CallsIn Fence.wide 0 P g (#[.func (.yield l) #[] #[]] ++ lb) W fun e W'=>(∃ v,e=.returned v)/\∃ S,Stays K S W W'/\(J S xs W'\/∃ pre,pre <+: xs/\Jx S pre W')
theorem Stays.putObj {K S:Nat->Prop} {w W:World} (h:Stays K S w W) (r:Nat) (o:Obj):Stays K S w (W.putObj r o):=⟨h.1,fun b hb=>by rw [World.putObj_size];exact h.2 b hb⟩
theorem stays_in {K K' S:Nat->Prop} {w w' W:World} (h:Stays K' S w' W) (hs:w.heap.size<=w'.heap.size) (h1:∀ b,K b->K' b) (h2:∀ b,K' b->K b\/w.heap.size<=b) (h3:∀ b,K' b->b<w'.heap.size) (h4:w'.heap.size<=W.heap.size):Stays K S w W :=
 ⟨fun b hb=>h.1 b (h1 b hb),fun b hb=>by
   rcases h.2 b hb with h5|h5
   . exact (h2 b h5).imp_right fun h6=>⟨h6,by have:=h3 b h5;omega⟩
   . exact .inr ⟨by omega,h5.2⟩⟩
theorem RoundIn.wide {m m':Nat} {P:Program} {l:Nat} {f:FuncId} {tmps:Array Value} {assign body:Code} {w:World} {R:Ending->World->Prop}
 (h:RoundIn Fence.wide m P l f tmps assign body w R):RoundIn Fence.wide m' P l f tmps assign body w R:=⟨h.1,fun c cs _=>h.2 c cs (room_wide _)⟩
theorem YieldAt.wide {m:Nat} (m':Nat) {P:Program} {l:Nat} {args:Array Value} {W:World} {R:Ending->World->Prop} (h:YieldAt Fence.wide m P l args W R):YieldAt Fence.wide m' P l args W R:=by
 obtain ⟨fn,tmps,assign,body,hy,hR⟩:=h;exact ⟨fn,tmps,assign,body,hy,RoundIn.wide hR⟩
theorem wide_calls {m m':Nat} {P:Program} {f:FuncId} {args:Array Value} {w:World} {R:Ending->World->Prop} (h:CallsIn Fence.wide m P f args w R):CallsIn Fence.wide m' P f args w R:=⟨h.1,fun cs _=>h.2 cs (room_wide _)⟩
theorem Iter.mono {α:Type} {P:Program} {g:Nat} {lb:Array Value} {encs:α->Array Value} {K K':Nat->Prop} {xs:List α} {w w':World} (h:Iter P g lb encs K xs w) (hK:∀ b,K b->K' b) (hw:Keeps K w w') :
  Iter P g lb encs K' xs w':=by
 intro l J Jx W hk hJ hJx hY h0;refine (h l (fun S=>J (fun b=>S b\/K' b)) (fun S=>Jx (fun b=>S b\/K' b)) W (hw.trans (hk.sub hK)) (fun S=>hJ _) (fun S=>hJx _) ?_ ?_).mono ?_
 . intro S pre x suf W1 hxs hj
   refine (hY (fun b=>S b\/K' b) pre x suf W1 hxs hj).mono ?_;rintro e W2 (⟨he,hj2,hk2⟩|hx)
   . exact .inl ⟨he,hj2,hk2.sub fun b hb=>.inl hb⟩
   . exact .inr ⟨hx.1,hx.2.1,hx.2.2.sub fun b hb=>.inl hb⟩
 . intro S W' hb hs
   exact h0 _ W' hb ⟨fun b hb'=>.inr hb',fun b hb'=>hb'.elim (fun h1=>(hs.2 b h1).imp_left (hK b)) .inl⟩
 . rintro e W2 ⟨hv,S,hs,hj⟩
   exact ⟨hv,fun b=>S b\/K' b,⟨fun b hb'=>.inr hb',fun b hb'=>hb'.elim (fun h1=>(hs.2 b h1).imp_left (hK b)) .inl⟩,hj⟩
theorem ownFrom_keeps {β:Type} {B:Nat} {K:Nat->Prop} {w:World} (hK:∀ b,K b->b<w.heap.size/\b<B):OwnFrom B (fun (_:β) W=>Keeps K w W):=by
 intro _ X Y row hs hg hr;refine ⟨jL hs.1 hg.size,fun b hb=>(hg.block b (kAa (hK b hb).1 hs.1) (fun e=>?_)).trans (hs.2 b hb)⟩;have h1:=(hr b e.symm).1;have h2:=(hK b hb).2;omega
theorem wpIn_at_zero {F:Fence} {n:Nat} {P:Program} {o:Oper} {l:List Oper} {h:0<(o::l).toArray.size} {a:Act} {w:World} {K:Act->World->Prop} {Q:Exit->Act->World->Prop}:Oper.wpIn F n P ((o::l).toArray[0]'h) a w K Q=Oper.wpIn F n P o a w K Q:=rfl
theorem wpIn_at_succ {F:Fence} {n m:Nat} {P:Program} {o:Oper} {l:List Oper} {h:m+1<(o::l).toArray.size} {a:Act} {w:World} {K:Act->World->Prop} {Q:Exit->Act->World->Prop}:Oper.wpIn F n P ((o::l).toArray[m+1]'h) a w K Q=Oper.wpIn F n P (l.toArray[m]'(by simpa using h)) a w K Q:=rfl
theorem Keeps.alloc {S:Nat->Prop} {A B:World} (h:Keeps S A B) (hs:∀ b,S b->b<A.heap.size) (o:Obj):Keeps S A (B.alloc o) :=
 h.trans ⟨by simp,fun b hb=>Below.heap_alloc B o b (kAa (hs b hb) h.1)⟩
theorem Keeps.setCell {S:Nat->Prop} {A B:World} (h:Keeps S A B) {p:Addr} (hp:¬ S p.block) (u:Value):Keeps S A (B.setCell p u) :=
 h.trans ⟨by simp [World.setCell],fun b hb=>Below.heap_setCell B p u b (fun e=>hp (e ▸ hb))⟩
theorem wide_call {n:Nat} {P:Program} {f:FuncId} {args:Array Value} {w:World} {R R':Ending->World->Prop} (h:Calls P f args w R) (k:∀ e w',R e w'->R' e w') :
 Fence.wide.fn f/\Fence.wide.depth=none/\CallsIn Fence.wide n P f args w R':=⟨trivial,rfl,(callsIn_wide.2 h).mono k⟩
def roundEnd {α:Type} (S:Nat->Prop) (I:List α->World->Prop) (Ix:Code->List α->World->Prop) (xs:List α) (W:World):Exit->Act->World->Prop
 | .normal,_,W'=>Keeps S W W'/\I xs W'
 | .ret,_,W'=>Keeps S W W'/\Ix .ret xs W'
 | .exit id,_,W'=>Keeps S W W'/\Ix (.exit id) xs W'
 | .goto t,_,W'=>Keeps S W W'/\Ix (.goto t) xs W'
 | .panic _,_,_=>False
 | .outgrown,_,_=>False
theorem rangeFunc_law {α:Type} {P:Program} {n:Nat} {g:Operand} {ps:Array Tmp} {assign body:Code} {Q:Exit->Act->World->Prop} {a:Act} {w:World}
  {gf:Nat} {lb:Array Value} (hg:a.eval g=.func (.func gf) #[] lb) (eg:∀ args w,(callFunc gf args).run P w=.ok (.enter gf args) w)
  {encs:α->Array Value} {K:Nat->Prop} {xs:List α} {w0:World} (hit:Iter P gf lb encs K xs w0) (h0:Keeps K w0 w) (hK:∀ b,K b->b<w.heap.size) (hps:∀ x,(encs x).size=ps.size)
  (I:(Nat->Prop)->List α->World->Prop) (Ix:(Nat->Prop)->Code->List α->World->Prop) (hI:∀ S,OwnFrom w.heap.size (I S)) (hIx:∀ S c,OwnFrom w.heap.size (Ix S c))
  (hstart:∀ S W',Below w.heap.size w W'->Stays K S w W'->I S [] W') (Ax:α->Act->World->Prop) (hAx:∀ x a',OwnFrom w.heap.size (fun (_:Unit) W=>Ax x a' W))
  (hassign:∀ (l:Nat) (S:Nat->Prop) (pre:List α) (x:α) (suf:List α) (W:World) (K':Act->World->Prop),xs=pre ++ x::suf->(∀ b,S b->b<W.heap.size)->(∀ b,K b->S b)->I S pre W ->
    (∀ a' W',Keeps S W W'->I S pre W'->Ax x a' W'->K' a' W') ->
    assign.wpIn (Fence.wide.inRound l) n P (Exit.then K' (fun _ _ _=>False)) { tmps:=(ps.zip (encs x)).foldl (fun t (p,v)=>t.setIfInBounds p v) a.tmps,defers:=[] } W)
  (hbody:∀ (l:Nat) (S:Nat->Prop) (pre:List α) (x:α) (suf:List α) (a':Act) (W:World),xs=pre ++ x::suf->(∀ b,S b->b<W.heap.size)->(∀ b,K b->S b)->I S pre W->Ax x a' W->body.wpIn (Fence.wide.inRound l) n P (roundEnd S (I S) (Ix S) (pre ++ [x]) W) a' W)
  (hdone:∀ (D:Nat) (S:Nat->Prop) (W:World),w.heap.size<=D->Stays K S w W->I S xs W->W.heap[D]?=some (.deferred (some []))->Q .normal { a with defers:={ target:=.collected D,args := #[] }::a.defers } W)
  (hstop:∀ (D:Nat) (S:Nat->Prop) (c:Code) (pre:List α) (W:World),w.heap.size<=D->Stays K S w W->pre <+: xs->Ix S c pre W->W.heap[D]?=some (.deferred (some []))->c.wpIn Fence.wide n P Q { a with defers:={ target:=.collected D,args := #[] }::a.defers } W) :
  (Code.rangeFunc g ps assign body).wpIn Fence.wide n P Q a w:=by
 refine wpIn_rangeFunc fun fn _=>?_
 generalize hrec:(fun st pe=>({ state:=st,pending:=pe,fn,tmps:=a.tmps,params:=ps,assign,body,defers:=w.heap.size }:Loop))=rec;have hp:∀ st pe,(rec st pe).params=ps/\(rec st pe).state=st/\(rec st pe).pending=pe/\(rec st pe).fn=fn/\(rec st pe).assign=assign/\(rec st pe).body=body/\(rec st pe).tmps=a.tmps:=fun st pe=>by
  rw [<- hrec];exact ⟨rfl,rfl,rfl,rfl,rfl,rfl,rfl⟩
 have hturn:∀ st pe st',{ rec st pe with state:=st' }=rec st' pe:=fun st pe st'=>by rw [<- hrec]
 have hturn2:∀ st pe st' pe',{ rec st pe with state:=st',pending:=pe' }=rec st' pe':=fun st pe st' pe'=>by rw [<- hrec]
 have henter:(Instr.enterLoop fn a.tmps ps assign body Fence.wide.round).run P w=.ok (w.heap.size+1,[{ target:=.collected w.heap.size,args := #[] }]) ((w.alloc (.deferred (some []))).alloc (.loop (rec .ready none))):=by
  rw [<- hrec];exact run_enterLoop_outer _ _ _ _ _
 generalize hW1:(w.alloc (.deferred (some []))).alloc (.loop (rec .ready none))=W1 at henter;have hz:W1.heap.size=w.heap.size+2:=by rw [<- hW1];simp
 have hL1:W1.heap[w.heap.size+1]?=some (.loop (rec .ready none)):=by
  rw [<- hW1];have:=World.alloc_heap_new (w.alloc (.deferred (some []))) (.loop (rec .ready none));rwa [World.size_alloc] at this
 have hD1:W1.heap[w.heap.size]?=some (.deferred (some [])):=by
  rw [<- hW1];exact (Below.heap_alloc _ _ _ (by simp)).trans (World.alloc_heap_new w _)
 have hb1:Below w.heap.size w W1:=by rw [<- hW1];exact ((Below.refl _ w).alloc (jBb _) _).alloc (by simp) _
 refine ⟨w.heap.size+1,[{ target:=.collected w.heap.size,args := #[] }],W1,{ target:=.fn (.func gf) lb,args := #[.func (.yield (w.heap.size+1)) #[] #[]] },W1,gf,
  #[.func (.yield (w.heap.size+1)) #[] #[]] ++ lb,W1,henter,?_,fun _ _=>trivial,?_,fun h=>by simp [Fence.wide] at h,?_⟩
 . simp only [resolve,hg]
   simp [go_sem]
 . simp [invoke,go_sem,eg]
 ·
   let T:(Nat->Prop)->Nat->Prop:=fun S b=>S b\/b=w.heap.size\/b=w.heap.size+1
   have hlw:∀ {S:Nat->Prop} {W W':World},(∀ b,S b->b<W.heap.size)->W.heap.size<=W'.heap.size->∀ b,S b->b<W'.heap.size:=fun h k b hb=>kAa (h b hb) k
   refine wide_calls ((hit (w.heap.size+1)
    (fun S pre W=>(∀ b,S b->b<W.heap.size)/\Stays K S W1 W/\I (T S) pre W/\W.heap[w.heap.size+1]?=some (.loop (rec .ready none))/\W.heap[w.heap.size]?=some (.deferred (some [])))
    (fun S pre W=>Stays K S W1 W/\∃ c,Ix (T S) c pre W/\W.heap[w.heap.size+1]?=some (.loop (rec .done (some c)))/\W.heap[w.heap.size]?=some (.deferred (some [])))
    W1 (h0.trans (Keeps.of_below hb1 hK)) ?_ ?_ ?_ ?_).mono ?_)
   . rintro S pre A B row ⟨h1,h2,h3,h4,h5⟩ hgr hr
     have hsz:=hgr.size;refine ⟨hlw h1 hsz,⟨h2.1,fun b hb=>(h2.2 b hb).imp_right fun h=>⟨h.1,by omega⟩⟩,hI _ pre A B row h3 hgr (fun r e=>⟨by have:=(hr r e).1;omega,(hr r e).2⟩),(hgr.block _ (jDa.1 h4).1 (fun e=>?_)).trans h4,(hgr.block _ (jDa.1 h5).1 (fun e=>?_)).trans h5⟩
     . have:=(hr _ e.symm).1;omega
     . have:=(hr _ e.symm).1;omega
   . rintro S pre A B row ⟨h2,c,h3,h4,h5⟩ hgr hr
     have hsz:=hgr.size;refine ⟨⟨h2.1,fun b hb=>(h2.2 b hb).imp_right fun h=>⟨h.1,by omega⟩⟩,c,hIx _ c pre A B row h3 hgr (fun r e=>⟨by have:=(hr r e).1;omega,(hr r e).2⟩),(hgr.block _ (jDa.1 h4).1 (fun e=>?_)).trans h4,(hgr.block _ (jDa.1 h5).1 (fun e=>?_)).trans h5⟩
     . have:=(hr _ e.symm).1;omega
     . have:=(hr _ e.symm).1;omega
   ·
     rintro S pre x suf W0 hxs ⟨h1',h2',h3',h4',h5'⟩;have hlt':w.heap.size+1<W0.heap.size:=(jDa.1 h4').1;have hy:=run_yield (P:=P) (args:=encs x) h4' (by rw [(hp _ _).1];exact hps x);obtain ⟨p1,p2,p3,p4,p5,p6,p7⟩:=hp .ready none;rw [p1,p4,p5,p6,p7] at hy;have hTl:∀ b,T S b->b<W0.heap.size:=fun b hb=>by
      rcases hb with hb|rfl|rfl
      . exact h1' b hb
      . omega
      . omega
     refine ⟨fn,_,assign,body,hy,RoundIn.wide (roundIn_of_wpIn (n:=n) trivial (hassign _ (T S) pre x suf W0 _ hxs hTl (fun b hb=>.inl (h2'.1 b hb)) h3' ?_))⟩;intro a' W hka hia hax;have hkS:Keeps S W0 W:=hka.sub fun b hb=>.inl hb
     have h4:=(hka.2 _ (.inr (.inr rfl))).trans h4';have h5:=(hka.2 _ (.inr (.inl rfl))).trans h5';have h1:∀ b,S b->b<W.heap.size:=hlw h1' hka.1;have h2:Stays K S W1 W:=⟨h2'.1,fun b hb=>(h2'.2 b hb).imp_right fun h=>⟨h.1,by have:=hka.1;omega⟩⟩;have hlt:w.heap.size+1<W.heap.size:=by have:=hka.1;omega
     refine ⟨_,run_beginRound h4 p2,?_⟩;rw [hturn];have hl2:(W.putObj (w.heap.size+1) (.loop (rec .busy none))).heap[w.heap.size+1]?=some (.loop (rec .busy none)):=World.putObj_heap_same hlt;have hd2:(W.putObj (w.heap.size+1) (.loop (rec .busy none))).heap[w.heap.size]?=some (.deferred (some [])):=(World.putObj_heap_other (by omega)).trans h5;have hnS:¬ S (w.heap.size+1):=fun hs=>by
      rcases h2.2 _ hs with h|h
      . have:=hK _ h;omega
      . omega
     have hi2:I (T S) pre (W.putObj (w.heap.size+1) (.loop (rec .busy none))):=(hI _).putObj _ hia (by omega) h4 rfl;have hax2:Ax x a' (W.putObj (w.heap.size+1) (.loop (rec .busy none))):=(hAx x a').putObj (s:=()) _ hax (by omega) h4 rfl;refine wpIn_mono (hbody _ (T S) pre x suf _ _ hxs (fun b hb=>?_) (fun b hb=>.inl (h2.1 b hb)) hi2 hax2) ?_
     . rw [World.putObj_size]
       rcases hb with hb|rfl|rfl
       . exact h1 b hb
       . omega
       . omega
     have fin:∀ (jump:Option Code) (W3:World),Keeps (T S) (W.putObj (w.heap.size+1) (.loop (rec .busy none))) W3 ->
       (Instr.endRound (w.heap.size+1) jump).run P W3=.ok (.bool jump.isNone) (W3.putObj (w.heap.size+1) (.loop (rec (if jump.isNone then .ready else .done) jump))) /\
       W3.heap[w.heap.size+1]?=some (.loop (rec .busy none)) /\
       (W3.putObj (w.heap.size+1) (.loop (rec (if jump.isNone then .ready else .done) jump))).heap[w.heap.size+1]?=some (.loop (rec (if jump.isNone then .ready else .done) jump)) /\
       (W3.putObj (w.heap.size+1) (.loop (rec (if jump.isNone then .ready else .done) jump))).heap[w.heap.size]?=some (.deferred (some [])) /\
       W.heap.size<=W3.heap.size/\Keeps S W0 (W3.putObj (w.heap.size+1) (.loop (rec (if jump.isNone then .ready else .done) jump))):=fun jump W3 hk3=>by
      have hl3:=(hk3.2 _ (.inr (.inr rfl))).trans hl2;have hd3:=(hk3.2 _ (.inr (.inl rfl))).trans hd2;have hs3:=hk3.1;rw [World.putObj_size] at hs3;have he:=run_endRound (P:=P) jump hl3;rw [hturn2] at he;refine ⟨he,hl3,World.putObj_heap_same (by omega),(World.putObj_heap_other (by omega)).trans hd3,hs3,hkS.trans ⟨by rw [World.putObj_size];exact hs3,fun b hb=>?_⟩⟩;have hne:b≠w.heap.size+1:=fun e=>hnS (e ▸ hb)
      exact (World.putObj_heap_other hne).trans ((hk3.2 b (.inl hb)).trans (World.putObj_heap_other hne))
     have stay:∀ {W3:World},W.heap.size<=W3.heap.size->Stays K S W1 W3:=fun hs=>⟨h2.1,fun b hb=>(h2.2 b hb).imp_right fun h=>⟨h.1,by omega⟩⟩
     rintro e a3 W3 hpst;cases e with
     | normal =>
       obtain ⟨hk3,hi3⟩:=hpst;obtain ⟨hr,hl3,hl4,hd4,hs4,hks⟩:=fin none W3 hk3;exact ⟨_,_,hr,.inl ⟨rfl,⟨hlw h1 (by rw [World.putObj_size];exact hs4),stay (by rw [World.putObj_size];exact hs4),(hI _).putObj _ hi3 (by omega) hl3 rfl,hl4,hd4⟩,hks⟩⟩
     | ret =>
       obtain ⟨hk3,hi3⟩:=hpst;obtain ⟨hr,hl3,hl4,hd4,hs4,hks⟩:=fin (some .ret) W3 hk3;exact ⟨_,_,hr,.inr ⟨rfl,⟨stay (by rw [World.putObj_size];exact hs4),.ret,(hIx _ _).putObj _ hi3 (by omega) hl3 rfl,hl4,hd4⟩,hks⟩⟩
     | exit id =>
       obtain ⟨hk3,hi3⟩:=hpst;obtain ⟨hr,hl3,hl4,hd4,hs4,hks⟩:=fin (some (.exit id)) W3 hk3;exact ⟨_,_,hr,.inr ⟨rfl,⟨stay (by rw [World.putObj_size];exact hs4),.exit id,(hIx _ _).putObj _ hi3 (by omega) hl3 rfl,hl4,hd4⟩,hks⟩⟩
     | goto t =>
       obtain ⟨hk3,hi3⟩:=hpst;obtain ⟨hr,hl3,hl4,hd4,hs4,hks⟩:=fin (some (.goto t)) W3 hk3;exact ⟨_,_,hr,.inr ⟨rfl,⟨stay (by rw [World.putObj_size];exact hs4),.goto t,(hIx _ _).putObj _ hi3 (by omega) hl3 rfl,hl4,hd4⟩,hks⟩⟩
     | panic ch=>exact hpst.elim
     | outgrown=>exact hpst.elim
   ·
     intro S W' hb hst;have hl':=(hb.block (w.heap.size+1) (by omega)).trans hL1;have hd':=(hb.block w.heap.size (by omega)).trans hD1;have hlt:∀ b,S b->b<W'.heap.size:=fun b hb'=>by
      rcases hst.2 b hb' with h|h
      . have:=hK b h;have:=hb.size;omega
      . exact h.2
     refine ⟨hlt,hst,hstart (T S) W' (hb1.trans (hb.mono (by omega))) ⟨fun b hb'=>.inl (hst.1 b hb'),fun b hb'=>?_⟩,hl',hd'⟩
     have:=hb.size;rcases hb' with h|rfl|rfl
     . exact (hst.2 b h).imp_right fun h=>⟨by omega,h.2⟩
     . exact .inr ⟨by omega,by omega⟩
     . exact .inr ⟨by omega,by omega⟩
   ·
     have hT:∀ {S:Nat->Prop} {W:World} {r:Loop} {ob:Obj},Stays K S W1 W->W.heap[w.heap.size+1]?=some (.loop r)->Stays K (T S) w (W.putObj (w.heap.size+1) ob):=fun h hl=>by
      have hlt:=(jDa.1 hl).1;refine ⟨fun b hb=>.inl (h.1 b hb),fun b hb=>?_⟩;rw [World.putObj_size];rcases hb with hb|rfl|rfl
      . exact (h.2 b hb).imp_right fun h=>⟨by omega,h.2⟩
      . exact .inr ⟨by omega,by omega⟩
      . exact .inr ⟨by omega,by omega⟩
     rintro e W2 ⟨⟨v,rfl⟩,S,hst,(⟨_,_,hi,hl,hd⟩|⟨pre,hpre,_,c,hi,hl,hd⟩)⟩
     . have he:=run_endLoop (P:=P) hl (by rw [(hp _ _).2.1];simp)
       rw [hturn,(hp _ _).2.2.1] at he;exact ⟨none,_,he,hdone _ (T S) _ (jBb _) (hT hst hl) ((hI _).putObj _ hi (by omega) hl rfl) ((World.putObj_heap_other (by omega)).trans hd)⟩
     . have he:=run_endLoop (P:=P) hl (by rw [(hp _ _).2.1];simp)
       rw [hturn,(hp _ _).2.2.1] at he;exact ⟨some c,_,he,hstop _ (T S) c pre _ (jBb _) (hT hst hl) hpre ((hIx _ c).putObj _ hi (by omega) hl rfl) ((World.putObj_heap_other (by omega)).trans hd)⟩
end
section
open Go.ChangeShapes Go.WideShapes Go.ChangeAt Go.RowKit
end
end Go.Proofs.YtidamcdklgfogaaGreatDoor
