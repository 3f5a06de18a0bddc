import Derived.Test.YtidamcdklgfogaaGreatUbb
set_option linter.unusedVariables false
set_option linter.unusedSimpArgs false
set_option maxRecDepth 100000
set_option maxHeartbeats 4000000
namespace Go.Proofs.YtidamcdklgfogaaGreat
section
open Go.RowKit
def IL(p:PH)(A:Option Addr)(l:List Int):Prop:=l.length<=9223372036854775807/\(0<l.length->∃X off,A=some ⟨X,off,none⟩/\Cells p X off (l.map (Value.int .i64)))
theorem ihas_any(E:World)(I:PH)(ms:List PH)(p:PH)(A:Option Addr)(c:Nat)(l:List Int)(v:Int)(w:World)(hl:IL p A l)(hp:Src I ms p)(hS:Sat E I ms w) :
  Calls Tryz.prog 120 #[.slice A l.length c,.int .i64 v] w λe w'=>e=.returned (.bool (decide (v∈l)))/\Sat E I ms w':=by
 have Ha:=yH hl.2;have Hl:=hl.1;clear hl;generalize hL:l.length=L at *
 have HL:=yH hL;clear hL;have HP:=yH hp;clear hp;go_enter Tryz.func120,Tryz.ntmps120;go_wp2_with (fail)
 have HS0:=yH hS;clear hS;go_loopw [5] (λi wr=>∃k:Nat,k<=L/\i=.int .i64 k/\(v∉l.take k)/\Sat E I ms wr) (λi _=>(L-intOf i).toNat)
 case atStart=>exact⟨0,jC _,rfl,by simp,HS0.out⟩
 case round =>
  obtain⟨k,hk,rfl,hb,hS⟩:=hrel;clear HS0;by_cases hlt:k<L
  . obtain⟨Y,off,rfl,hc⟩:=Ha.out (by omega)
    have hk1:k<l.length:=by rw[HL.out];exact hlt
    have hcell:p.at Y (off+k)=some (.int .i64 l[k]):=hc k _ (by simp[hk1]);have hgx:l[k]?=some l[k]:=yA hk1;generalize l[k]=x at *
    have Hx:=yH hgx;have Hb':=yH hb;have hp:=HP.out;have k0:(0:Int)<=(k:Int):=by omega
    have k1:(k:Int)<(L:Int):=by omega
    clear hgx hc hk1 hb;by_cases hxy:x=v
    . subst hxy
      have e2:decide (x∈l)=true:=by simpa using jCb Hx.out
      have E2:=yH e2;clear e2;go_wp2_with ( ((with_reducible refine Qe ?_);(refine' Xx (v:=_) hp hS rfl rfl ?ha rfl ?hc ?_);(case ha=>exact Qh);(case hc=>assumption);refine aM ?_))
      go_ret;exact⟨by rw[E2.out];rfl,hS⟩
    . have HX:=yH hxy
      have e:(x==v)=false:=by simpa using hxy
      clear hxy;go_wp2_with ( ((with_reducible refine Qe ?_);(refine' Xx (v:=_) hp hS rfl rfl ?ha rfl ?hc ?_);(case ha=>exact Qh);(case hc=>assumption);refine aM ?_))
      exact⟨⟨k+1,hlt,by go_num,by rw[jR,Hx.out];simpa using ⟨Hb'.out,λh=>HX.out h.symm⟩,hS⟩,by simp[intOf];omega⟩
  . obtain rfl:k=L:=by omega
    have e:decide (v∈l)=false:=by
     rw[jK (by have:=HL.out;omega)] at hb
     simpa using hb
    have He:=yH e;clear e hb;go_wp2_with (fail)
    go_ret;exact⟨by rw[He.out];rfl,hS⟩
def Kw(v:Int)(s:List Int×Bool)(x:Int):List Int×Bool:=if s.2=false/\v<x then (s.1++[v]++[x],true) else (s.1++[x],s.2)
def putF(v:Int)(l:List Int):List Int×Bool:=l.foldl (Kw v) ([],false)
def putL(v:Int)(l:List Int):List Int:=if (putF v l).2 then (putF v l).1 else (putF v l).1++[v]
theorem putF_take(v:Int)(l:List Int)(k:Nat)(x:Int)(h:l[k]?=some x):putF v (l.take (k+1))=Kw v (putF v (l.take k)) x:=by
 unfold putF;rw[jR,h];rw[kSa];rfl
theorem putF_len(v:Int):∀(l:List Int) (s:List Int×Bool),(l.foldl (Kw v) s).1.length+(if s.2 then 1 else 0)=s.1.length+l.length+(if (l.foldl (Kw v) s).2 then 1 else 0):=by
 intro l
 induction l with
 | nil=>intro s;show s.1.length+_=s.1.length+0+_;rfl
 | cons x l ih =>
   intro s;rw[List.foldl_cons]
   have:=ih (Kw v s x);obtain⟨s1,d⟩:=s;unfold Kw at this ⊢;by_cases h:d=false/\v<x
   . simp only[h,and_self,jEb] at this ⊢
     simp at this ⊢
     omega
   . simp only[h,jOb] at this ⊢
     simp at this ⊢
     omega
theorem putF_le(v:Int)(l:List Int)(k:Nat):(putF v (l.take k)).1.length<=l.length+1:=by
 have:=putF_len v (l.take k) ([],false);have h2:(l.take k).length<=l.length:=by simp;omega
 unfold putF;simp at this
 split at this <;> omega
theorem put_any(E:World)(I:PH)(ms:List PH)(p:PH)(A:Option Addr)(c:Nat)(l:List Int)(v:Int)(w:World)(hl:IL p A l)(hsm:l.length<=1000000000)(hp:Src I ms p)(hS:Sat E I ms w) :
  Calls Tryz.prog 121 #[.slice A l.length c,.int .i64 v] w λe w'=>∃v' m',e=.returned v'/\OwnP m' 3 1 v' (putL v l).length ((putL v l).map (Value.int .i64))/\Sat E I (m'::ms) w':=by
 have Ha:=yH hl.2;have Hle:=yH (putF_le v l);clear hl;generalize hL:l.length=L at *
 have HL:=yH hL;clear hL;have HP1:=yH (λm=>hp.cons m);have HP2:=yH (λm1 m2=>(hp.cons m2).cons m1);clear hp;go_enter Tryz.func121,Tryz.ntmps121;go_wp2_with (first|(refine aY ?_;clear hS;intro XS w hS))
 have HS0:=yH hS;clear hS;go_loopw [5,6,7] (λv5 d i wr=>∃(k:Nat) (m:PH),k<=L/\i=.int .i64 k/\d=.bool (putF v (l.take k)).2/\OwnP m 3 1 v5 (putF v (l.take k)).1.length ((putF v (l.take k)).1.map (Value.int .i64))/\Sat E I (m::ms) wr) (λ_ _ i _=>(L-intOf i).toNat)
 case atStart=>exact⟨0,_,jC _,rfl,rfl,OwnP.lit _ _ 1 0 #[] (jC _) rfl,HS0.out⟩
 case round =>
  obtain⟨k,m,hk,rfl,rfl,hO,hS⟩:=hrel;clear HS0;have hq:=Hle.out k;by_cases hlt:k<L
  . obtain⟨Y,off,rfl,hc⟩:=Ha.out (by omega)
    have hk1:k<l.length:=by rw[HL.out];exact hlt
    have hcell:p.at Y (off+k)=some (.int .i64 l[k]):=hc k _ (by simp[hk1]);have hgx:l[k]?=some l[k]:=yA hk1;generalize l[k]=x at *
    have Hn:=yH (putF_take v l k x hgx);obtain⟨A5,c5,rfl,hc5⟩:=hO.shape;have k0:(0:Int)<=(k:Int):=by omega
    have k1:(k:Int)<(L:Int):=by omega
    clear hgx hc hk1 hc5;generalize putF v (l.take k)=s at *
    obtain⟨s1,d⟩:=s;simp only at *
    generalize hs1:s1.length=n at *
    have Hs1:=yH hs1;clear hs1;have HO:=yH True.intro;cases d with
    | true =>
      have e:Kw v (s1,true) x=(s1++[x],true):=by simp[Kw]
      rw[e] at Hn;clear e;go_wp2_with (first|(refine aY ?_;clear hS;intro XS w hS)|((with_reducible refine Qe ?_);  ((refine' Xx (v:=_) (HP1.out _) hS rfl rfl ?ha rfl ?hc ?_);(case ha=>exact Qh);(case hc=>assumption);refine aM ?_) )|(at_builtin;(refine' apP (p:=_) (m:=_) (v:=_) (n:=_) (xs:=_) (news:=_) 1 (.inr (List.Mem.head _)) hS rfl rfl rfl Tryz.underlying23 Ko rfl Nat.one_pos rfl ?hown rfl ?hl ?hcl ?h1 ?h63 ?hby ?_);(case hown=>assumption);(case hcl=>exact Cells.one _ _ _ _);(case hl=>rfl);(case h1=>rfl);(case h63=>go_light;unfold maxLen;omega);(case hby=>go_light;omega);clear hS hO;intro v1 m1 w hO hS;(try simp only[zF,zG] at hS);refine aM ?_) )
      exact⟨⟨k+1,m1,hlt,by go_num,by rw[Hn.out],by rw[Hn.out];simpa[Hs1.out] using hO,hS.drop⟩,by simp[intOf];omega⟩
    | false =>
      by_cases hvx:v<x
      . have e:Kw v (s1,false) x=(s1++[v]++[x],true):=by simp[Kw,hvx]
        rw[e] at Hn;clear e;go_wp2_with (first|(refine aG ?_)|(refine aY ?_;clear hS;intro XS w hS)|((with_reducible refine Qe ?_);first|((refine' Xx (v:=_) (HP1.out _) hS rfl rfl ?ha rfl ?hc ?_);(case ha=>exact Qh);(case hc=>assumption);refine aM ?_)|((refine' Xx (v:=_) (HP2.out _ _) hS rfl rfl ?ha rfl ?hc ?_);(case ha=>exact Qh);(case hc=>assumption);refine aM ?_))|(at_builtin;(refine' apP (p:=_) (m:=_) (v:=_) (n:=_) (xs:=_) (news:=_) 1 (.inr (List.Mem.head _)) hS rfl rfl rfl Tryz.underlying23 Ko rfl Nat.one_pos rfl ?hown rfl ?hl ?hcl ?h1 ?h63 ?hby ?_);(case hown=>assumption);(case hcl=>exact Cells.one _ _ _ _);(case hl=>rfl);(case h1=>rfl);(case h63=>go_light;unfold maxLen;omega);(case hby=>go_light;omega);clear hS hO;intro v1 m1 w hO hS;(try simp only[zF,zG] at hS);refine aM ?_)|(at_builtin;(refine' apP (p:=_) (m:=_) (v:=_) (n:=_) (xs:=_) (news:=_) 2 (.inr (List.Mem.head _)) hS rfl rfl rfl Tryz.underlying23 Ko rfl Nat.one_pos rfl ?hown rfl ?hl ?hcl ?h1 ?h63 ?hby ?_);(case hown=>assumption);(case hcl=>exact Cells.one _ _ _ _);(case hl=>rfl);(case h1=>rfl);(case h63=>go_light;unfold maxLen;omega);(case hby=>go_light;omega);clear hS hO;intro v1 m1 w hO hS;(try simp only[zF,zG] at hS);refine aM ?_))
        exact⟨⟨k+1,m1,hlt,by go_num,by rw[Hn.out],by rw[Hn.out];simpa[Hs1.out] using hO,hS.drop.drop⟩,by simp[intOf];omega⟩
      . have e:Kw v (s1,false) x=(s1++[x],false):=by simp[Kw,hvx]
        rw[e] at Hn;clear e;go_wp2_with (first|(refine aG ?_)|(refine aY ?_;clear hS;intro XS w hS)|((with_reducible refine Qe ?_);  ((refine' Xx (v:=_) (HP1.out _) hS rfl rfl ?ha rfl ?hc ?_);(case ha=>exact Qh);(case hc=>assumption);refine aM ?_) )|(at_builtin;(refine' apP (p:=_) (m:=_) (v:=_) (n:=_) (xs:=_) (news:=_) 1 (.inr (List.Mem.head _)) hS rfl rfl rfl Tryz.underlying23 Ko rfl Nat.one_pos rfl ?hown rfl ?hl ?hcl ?h1 ?h63 ?hby ?_);(case hown=>assumption);(case hcl=>exact Cells.one _ _ _ _);(case hl=>rfl);(case h1=>rfl);(case h63=>go_light;unfold maxLen;omega);(case hby=>go_light;omega);clear hS hO;intro v1 m1 w hO hS;(try simp only[zF,zG] at hS);refine aM ?_) )
        exact⟨⟨k+1,m1,hlt,by go_num,by rw[Hn.out],by rw[Hn.out];simpa[Hs1.out] using hO,hS.drop⟩,by simp[intOf];omega⟩
  . obtain rfl:k=L:=by omega
    have hf:l.take k=l:=jK (by have:=HL.out;omega);rw[hf] at hO hq ⊢;obtain⟨A5,c5,rfl,hc5⟩:=hO.shape;have Hput:=yH (show putL v l=if (putF v l).2 then (putF v l).1 else (putF v l).1++[v] from rfl);clear hf hc5;generalize putF v l=s at *
    obtain⟨s1,d⟩:=s;simp only at *
    generalize hs1:s1.length=n at *
    have Hs1:=yH hs1;clear hs1;cases d with
    | true =>
      go_wp2_with (fail)
      go_ret;exact⟨.slice A5 n c5,rfl,m,by rw[Hput.out];simpa[Hs1.out] using hO,hS⟩
    | false =>
      go_wp2_with (first|(refine aY ?_;clear hS;intro XS w hS)|(at_builtin;(refine' apP (p:=_) (m:=_) (v:=_) (n:=_) (xs:=_) (news:=_) 1 (.inr (List.Mem.head _)) hS rfl rfl rfl Tryz.underlying23 Ko rfl Nat.one_pos rfl ?hown rfl ?hl ?hcl ?h1 ?h63 ?hby ?_);(case hown=>assumption);(case hcl=>exact Cells.one _ _ _ _);(case hl=>rfl);(case h1=>rfl);(case h63=>go_light;unfold maxLen;omega);(case hby=>go_light;omega);clear hS hO;intro v1 m1 w hO hS;(try simp only[zF,zG] at hS);refine aM ?_) )
      go_ret;exact⟨v1,rfl,m1,by rw[Hput.out];simpa[Hs1.out] using hO,hS.drop⟩
theorem OwnP.il{m:PH}{e:TypeId}{A:Option Addr}{c:Nat}{s:List Int}(h:OwnP m e 1 (.slice A s.length c) s.length (s.map (Value.int .i64))):IL m A s :=
 ⟨jFb h.le_max (by unfold maxLen;omega),λhn=>by
   obtain⟨g,hA,hc⟩:=h.cells hn;exact⟨g,0,hA,hc⟩⟩
theorem putL_len(v:Int)(l:List Int):(putL v l).length=l.length+1:=by
 have:=putF_len v l ([],false);unfold putL putF;cases hd:(l.foldl (Kw v) ([],false)).2 with
 | true=>rw[hd] at this;simp at this ⊢;omega
 | false=>rw[hd] at this;simp at this ⊢;omega
def Xn(s:List Int)(x:Int):List Int:=if x∈s then s else putL x s
def ofL(l:List Int):List Int:=l.foldl Xn []
theorem ofL_take(l:List Int)(k:Nat)(x:Int)(h:l[k]?=some x):ofL (l.take (k+1))=Xn (ofL (l.take k)) x:=by
 unfold ofL;rw[jR,h];rw[kSa];rfl
theorem ofL_le:∀(l s:List Int),(l.foldl Xn s).length<=s.length+l.length:=by
 intro l
 induction l with
 | nil=>intro s;exact jBb _
 | cons x l ih =>
   intro s;rw[List.foldl_cons]
   have:=ih (Xn s x);have h2:(Xn s x).length<=s.length+1:=by
    unfold Xn;split
    . omega
    . rw[putL_len];omega
   simp only[yB];omega
theorem of_any_p(E:World)(I:PH)(ms:List PH)(p:PH)(A:Option Addr)(c:Nat)(l:List Int)(w:World)(hl:IL p A l)(hsm:l.length<=1000000000)(hp:Src I ms p)(hS:Sat E I ms w) :
  Calls Tryz.prog 81 #[.slice A l.length c] w λe w'=>∃v' m',e=.returned v'/\OwnP m' 3 1 v' (ofL l).length ((ofL l).map (Value.int .i64))/\Sat E I (m'::ms) w':=by
 have Ha:=yH hl.2;have Hle:=yH (λk=>(show (ofL (l.take k)).length<=l.length from jFb (ofL_le (l.take k) []) (by simp;omega)));clear hl;generalize hL:l.length=L at *
 have HL:=yH hL;clear hL;have HP1:=yH (λm=>hp.cons m);have HP2:=yH (λm1 m2=>(hp.cons m2).cons m1);clear hp;go_enter Tryz.func81,Tryz.ntmps81;go_wp2_with (first|(refine aY ?_;clear hS;intro XS w hS))
 have HS0:=yH hS;clear hS;go_loopw [3,4] (λv3 i wr=>∃(k:Nat) (m:PH),k<=L/\i=.int .i64 k/\OwnP m 3 1 v3 (ofL (l.take k)).length ((ofL (l.take k)).map (Value.int .i64))/\Sat E I (m::ms) wr) (λ_ i _=>(L-intOf i).toNat)
 case atStart=>exact⟨0,_,jC _,rfl,OwnP.lit _ _ 1 0 #[] (jC _) rfl,HS0.out⟩
 case round =>
  obtain⟨k,m,hk,rfl,hO,hS⟩:=hrel;clear HS0;have hq:=Hle.out k;obtain⟨A3,c3,rfl,hc3⟩:=hO.shape;by_cases hlt:k<L
  . obtain⟨Y,off,rfl,hc⟩:=Ha.out (by omega)
    have hk1:k<l.length:=by rw[HL.out];exact hlt
    have hcell:p.at Y (off+k)=some (.int .i64 l[k]):=hc k _ (by simp[hk1]);have hgx:l[k]?=some l[k]:=yA hk1;generalize l[k]=x at *
    have Hn:=yH (ofL_take l k x hgx);have k0:(0:Int)<=(k:Int):=by omega
    have k1:(k:Int)<(L:Int):=by omega
    clear hgx hc hk1 hc3;generalize ofL (l.take k)=s at *
    have HC:=yH (λw' (hS:Sat E I (m::ms) w')=>ihas_any E I (m::ms) m A3 c3 s x w' hO.il (.inr (.head _)) hS);have PC:=yH (λw' (hS:Sat E I (m::ms) w')=>put_any E I (m::ms) m A3 c3 s x w' hO.il (by omega) (.inr (.head _)) hS);by_cases hx:x∈s
    . have e:Xn s x=s:=by simp[Xn,hx]
      have e2:decide (x∈s)=true:=by simpa using hx
      rw[e] at Hn;rw[e2] at HC;have HO:=yH hO;clear e hx PC hO e2;go_wp2_with (first|((with_reducible refine Qe ?_);  ((refine' Xx (v:=_) (HP1.out _) hS rfl rfl ?ha rfl ?hc ?_);(case ha=>exact Qh);(case hc=>assumption);refine aM ?_) )|(go_at_call 120;((with_reducible refine yI (HC.out _ hS) ?_);clear hS;rintro e w ⟨rfl,hS⟩)) )
      exact⟨⟨k+1,m,hlt,by go_num,by rw[Hn.out];exact HO.out,hS⟩,by simp[intOf];omega⟩
    . have e:Xn s x=putL x s:=by simp[Xn,hx]
      have e2:decide (x∈s)=false:=by simpa using hx
      rw[e] at Hn;rw[e2] at HC;clear e hx hO e2;go_wp2_with (first|((with_reducible refine Qe ?_);  ((refine' Xx (v:=_) (HP1.out _) hS rfl rfl ?ha rfl ?hc ?_);(case ha=>exact Qh);(case hc=>assumption);refine aM ?_) )|(go_at_call 120;((with_reducible refine yI (HC.out _ hS) ?_);clear hS;rintro e w ⟨rfl,hS⟩))|(go_at_call 121;((with_reducible refine yI (PC.out _ hS) ?_);clear hS;rintro e w ⟨v1,m1,rfl,hO1,hS⟩)))
      exact⟨⟨k+1,m1,hlt,by go_num,by rw[Hn.out];exact hO1,(hS.perm (List.Perm.swap _ _ _)).drop⟩,by simp[intOf];omega⟩
  . obtain rfl:k=L:=by omega
    have hf:l.take k=l:=jK (by have:=HL.out;omega);rw[hf] at hO hq ⊢;clear hf hc3;have HO:=yH hO;clear hO;generalize hs:ofL l=s at *
    have Hs:=yH hs;clear hs;go_wp2_with (fail)
    go_ret;exact⟨_,m,rfl,by rw[Hs.out];exact HO.out,hS⟩
mutual
def Xo:Tr->List Int
 | .mk op var _ _ ks=>(if op=3 then [var] else [])++Kx ks
def Kx:List Tr->List Int
 | []=>[]
 | k::ks=>Xo k++Kx ks
end
mutual
theorem varsL_le:∀t:Tr,(Xo t).length<=t.size
 | .mk op var A cap ks=>by
   rw[Xo,Tr.size,yG]
   have:=varsLs_le ks;split <;> simp <;> omega
theorem varsLs_le:∀l:List Tr,(Kx l).length<=Tr.sizes l
 | []=>by simp[Kx,Tr.sizes]
 | k::ks=>by
   rw[Kx,Tr.sizes,yG]
   have:=varsL_le k
   have:=varsLs_le ks;omega
end
theorem varsLs_append(a b:List Tr):Kx (a++b)=Kx a++Kx b:=by
 induction a with
 | nil=>simp[Kx]
 | cons k ks ih=>simp[Kx,ih]
theorem varsLs_take(l:List Tr)(k:Nat)(t:Tr)(h:l[k]?=some t):Kx (l.take (k+1))=Kx (l.take k)++Xo t:=by
 rw[jR,h,varsLs_append];simp[Kx]
theorem sizes_take(l:List Tr)(k:Nat):Tr.sizes (l.take k)<=Tr.sizes l:=by
 induction l generalizing k with
 | nil=>simp
 | cons a l ih =>
   cases k with
   | zero=>simp[Tr.sizes]
   | succ k=>rw[List.take_succ_cons,Tr.sizes,Tr.sizes];have:=ih k;omega
theorem rvars_any(E:World):∀(b:Nat) (I:PH) (ms:List PH) (t:Tr) (w:World),t.size<=b->b<=100000->In I t->Sat E I ms w ->
  Calls Tryz.prog 82 #[t.val] w λe w'=>∃v' m',e=.returned v'/\OwnP m' 3 1 v' (Xo t).length ((Xo t).map (Value.int .i64))/\Sat E I (m'::ms) w':=by
 intro b
 induction b with
 | zero=>intro I ms t w h;have:=t.size_pos;omega
 | succ b ih =>
   intro I ms t w hsz hb hin hS;have IH:=yH (λns k w' (hk:k∈t.kids)=>ih I ns k w' (by have:=Tr.size_kid hk;omega) (by omega) (hin.kid k hk));have Hin:=yH hin.at_;have Hlen:=hin.row.1;clear ih hin;obtain⟨op,var,A,cap,kids⟩:=t;have Hle:=yH (λk=>(show (Kx (kids.take k)).length<=100000 from by
    have:=varsLs_le (kids.take k);have:=sizes_take kids k;rw[Tr.size] at hsz;omega))
   have Hlk:=yH (λk (hk:k∈kids)=>(show (Xo k).length<=100000 from by
    have:=varsL_le k;have:=Tr.size_kid (t:=.mk op var A cap kids) hk;omega))
   clear hsz hb;unfold Tr.val Xo;simp only[Tr.op,Tr.var,Tr.A,Tr.kids,Tr.cap] at *
   generalize hh:(if op=3 then [var] else [])=hd;generalize hvl:hd++Kx kids=vl;have Hvl:=yH hvl;clear hvl;have Hhl:=yH (show hd.length<=1 from by rw[<- hh];split <;> simp);have k3:∀(X:Nat),True:=λ_=>trivial
   clear k3;by_cases h3:op=3
   . rw[jAb h3] at hh
     subst h3
     skip
     have Hh:=yH hh;clear hh;go_enter Tryz.func82,Tryz.ntmps82;go_wp2_with (first|(refine aN 1 ?_;clear hS;intro X w hS)|(refine aL ?_)|(refine aY ?_;clear hS;intro XS w hS)|(at_builtin;(refine' apP (p:=_) (m:=_) (v:=_) (n:=_) (xs:=_) (news:=_) 1 (.inr (List.Mem.head _)) hS rfl rfl rfl Tryz.underlying23 Ko rfl Nat.one_pos rfl ?hown rfl ?hl ?hcl ?h1 ?h63 ?hby ?_);(case hown =>  exact OwnP.lit _ _ 1 0 #[] (jC _) rfl);(case hcl=>exact Cells.one _ _ _ _);(case hl=>rfl);(case h1=>rfl);(case h63=>go_light;unfold maxLen;omega);(case hby=>go_light;omega);clear hS;intro v1 m1 w hO hS;(try simp only[zF,zG] at hS);refine aM ?_))
     have HS0:=yH hS.drop;have HO0:=yH hO;clear hS hO;go_loopw [3,4] (λv3 i wr=>∃(k:Nat) (m:PH),k<=kids.length/\i=.int .i64 k/\OwnP m 3 1 v3 (hd++Kx (kids.take k)).length ((hd++Kx (kids.take k)).map (Value.int .i64))/\Sat E I (m::PH.one X (.cells #[.int .i64 3,.int .i64 var,.slice A kids.length cap] 87)::ms) wr) (λ_ i _=>(kids.length-intOf i).toNat)
     case atStart=>exact⟨0,_,jC _,rfl,by rw[<- Hh.out];exact HO0.out,HS0.out⟩
     case round =>
      obtain⟨k,m,hk,rfl,hO,hS⟩:=hrel;clear HS0 HO0;have hq:(hd++Kx (kids.take k)).length<=100001:=by have:=Hle.out k;have:=Hhl.out;rw[yG];omega
      obtain⟨A3,c3,rfl,hc3⟩:=hO.shape;by_cases hlt:k<kids.length
      . obtain⟨Y,off,rfl,hc⟩:=Hin.out (by omega)
        have hget:=yA hlt;have hmem:=jWb hlt;generalize kids[k]=kd at *
        obtain⟨hcell,hkin⟩:=hc k kd hget;have Hn:=yH (varsLs_take kids k kd hget);have IHk:=yH (λns w'=>IH.out ns kd w' hmem);have hkl:=Hlk.out kd hmem;unfold Tr.cells at hcell;unfold Tr.val at IHk;have k0:(0:Int)<=(k:Int):=by omega
        have k1:(k:Int)<(kids.length:Int):=by omega
        clear hget hc hmem hkin hc3;generalize Xo kd=l2 at *
        generalize hrow:hd++Kx (kids.take k)=row at *
        have Hrow:=yH hrow;clear hrow;go_wp2_with (first|(refine aL ?_)|(go_at_call 82;((with_reducible refine yI (IHk.out _ _ hS) ?_);clear hS;rintro e w ⟨v2,m2,rfl,hO1,hS⟩;obtain⟨A2,c2,rfl,hc2⟩:=hO1.shape))|(at_builtin;(refine' apS (p:=_) (m:=_) (v:=_) (n:=_) (xs:=_) (news:=l2.map (Value.int .i64)) 1 (.inr (List.Mem.head _)) hS rfl rfl rfl Tryz.underlying23 Ko rfl Nat.one_pos rfl ?hown rfl ?hl ?hcl ?h1 ?h63 ?hby ?_);(case hown=>assumption);(case hcl=>exact λhn=>(hO1.cells hn).elim λg h=>⟨g,0,h⟩);(case hl=>(rw[jHb,jG]));(case h1=>(intro u hu;obtain⟨q,_,rfl⟩:=jF.1 hu;rfl));(case h63=>go_light;unfold maxLen;omega);(case hby=>go_light;omega);clear hS hO;intro v1 m1 w hO hS;(try simp only[zF,zG] at hS);refine aM ?_))
        exact⟨⟨k+1,m1,hlt,by go_num,by rw[Hn.out,<- jE,Hrow.out,yG,jGa];exact hO,hS.drop⟩,by simp[intOf];omega⟩
      . obtain rfl:k=kids.length:=by omega
        have hlt':¬((kids.length:Int)<(kids.length:Int)):=by omega
        rw[kDa] at hO hq ⊢;clear hc3;rw[Hvl.out] at hO hq ⊢;have HO:=yH hO;clear hO;go_wp2_with (first|(refine aL ?_))
        go_ret;exact⟨_,rfl,m,HO.out,(hS.perm (List.Perm.swap _ _ _)).drop⟩
   . rw[jAa h3] at hh
     have d1:(op==3)=false:=by simpa using h3
     skip
     have Hh:=yH hh;clear hh;go_enter Tryz.func82,Tryz.ntmps82;go_wp2_with ( (first|(refine aN 1 ?_;clear hS;intro X w hS)|(refine aL ?_)|(refine aY ?_;clear hS;intro XS w hS)) )
     have HS0:=yH hS;have HO0:=yH (OwnP.lit XS 3 1 0 #[] (jC _) rfl);clear hS;go_loopw [3,4] (λv3 i wr=>∃(k:Nat) (m:PH),k<=kids.length/\i=.int .i64 k/\OwnP m 3 1 v3 (hd++Kx (kids.take k)).length ((hd++Kx (kids.take k)).map (Value.int .i64))/\Sat E I (m::PH.one X (.cells #[.int .i64 op,.int .i64 var,.slice A kids.length cap] 87)::ms) wr) (λ_ i _=>(kids.length-intOf i).toNat)
     case atStart=>exact⟨0,_,jC _,rfl,by rw[<- Hh.out];exact HO0.out,HS0.out⟩
     case round =>
      obtain⟨k,m,hk,rfl,hO,hS⟩:=hrel;clear HS0 HO0;have hq:(hd++Kx (kids.take k)).length<=100001:=by have:=Hle.out k;have:=Hhl.out;rw[yG];omega
      obtain⟨A3,c3,rfl,hc3⟩:=hO.shape;by_cases hlt:k<kids.length
      . obtain⟨Y,off,rfl,hc⟩:=Hin.out (by omega)
        have hget:=yA hlt;have hmem:=jWb hlt;generalize kids[k]=kd at *
        obtain⟨hcell,hkin⟩:=hc k kd hget;have Hn:=yH (varsLs_take kids k kd hget);have IHk:=yH (λns w'=>IH.out ns kd w' hmem);have hkl:=Hlk.out kd hmem;unfold Tr.cells at hcell;unfold Tr.val at IHk;have k0:(0:Int)<=(k:Int):=by omega
        have k1:(k:Int)<(kids.length:Int):=by omega
        clear hget hc hmem hkin hc3;generalize Xo kd=l2 at *
        generalize hrow:hd++Kx (kids.take k)=row at *
        have Hrow:=yH hrow;clear hrow;go_wp2_with (first|(refine aL ?_)|(go_at_call 82;((with_reducible refine yI (IHk.out _ _ hS) ?_);clear hS;rintro e w ⟨v2,m2,rfl,hO1,hS⟩;obtain⟨A2,c2,rfl,hc2⟩:=hO1.shape))|(at_builtin;(refine' apS (p:=_) (m:=_) (v:=_) (n:=_) (xs:=_) (news:=l2.map (Value.int .i64)) 1 (.inr (List.Mem.head _)) hS rfl rfl rfl Tryz.underlying23 Ko rfl Nat.one_pos rfl ?hown rfl ?hl ?hcl ?h1 ?h63 ?hby ?_);(case hown=>assumption);(case hcl=>exact λhn=>(hO1.cells hn).elim λg h=>⟨g,0,h⟩);(case hl=>(rw[jHb,jG]));(case h1=>(intro u hu;obtain⟨q,_,rfl⟩:=jF.1 hu;rfl));(case h63=>go_light;unfold maxLen;omega);(case hby=>go_light;omega);clear hS hO;intro v1 m1 w hO hS;(try simp only[zF,zG] at hS);refine aM ?_))
        exact⟨⟨k+1,m1,hlt,by go_num,by rw[Hn.out,<- jE,Hrow.out,yG,jGa];exact hO,hS.drop⟩,by simp[intOf];omega⟩
      . obtain rfl:k=kids.length:=by omega
        have hlt':¬((kids.length:Int)<(kids.length:Int)):=by omega
        rw[kDa] at hO hq ⊢;clear hc3;rw[Hvl.out] at hO hq ⊢;have HO:=yH hO;clear hO;go_wp2_with (first|(refine aL ?_))
        go_ret;exact⟨_,rfl,m,HO.out,(hS.perm (List.Perm.swap _ _ _)).drop⟩
def Tr.vars(t:Tr):List Int:=if (Yk t 1 0).1=0 then ofL (Xo t) else []
theorem Src.head{I m:PH}{ms:List PH}:Src I (m::ms) m:=.inr (.head _)
theorem IL.nil:IL (λ_=>none) none []:=⟨by simp,λh=>by simp at h⟩
theorem IL.own{m:PH}{e:TypeId}{v:Value}{s:List Int}(h:OwnP m e 1 v s.length (s.map (Value.int .i64))):∃A c,v=.slice A s.length c/\IL m A s:=by
 obtain⟨A,c,rfl,_⟩:=h.shape;exact⟨A,c,rfl,h.il⟩
theorem rVars_any(E:World)(I:PH)(ms:List PH)(t:Tr)(w:World)(hin:In I t)(hS:Sat E I ms w) :
  Calls Tryz.prog 39 #[t.val] w λe w'=>∃A c m,e=.returned (.slice A t.vars.length c)/\IL m A t.vars/\Sat E I (m::ms) w':=by
 have CK:=yH (λms' w'=>rCheck_any E I ms' t w' hin);unfold Tr.vars;by_cases h:(Yk t 1 0).1=0
 . rw[jAb h]
   rw[h] at CK;obtain⟨_,_,_,h4⟩:=rchk_ok t 1 0 (by omega) (by omega) (by omega) h;have hle:=varsL_le t;have VA:=yH (λ(ns:List PH) w' (hS':Sat E I ns w')=>rvars_any E 4096 I ns t w' (by omega) (by omega) hin hS');have hsm:(Xo t).length<=1000000000:=by omega
   unfold Tr.val at *
   generalize Xo t=l at *
   clear hin h h4 hle;go_enter Tryz.func39,Tryz.ntmps39;go_wp2_with (first|(refine aL ?_)|(refine aX ?_;clear hS;intro X w hS)|(go_at_call 38;((with_reducible refine yI (CK.out _ _ hS) ?_);clear hS;rintro e w ⟨rfl,hS⟩))|(go_at_call 82;((with_reducible refine yI (VA.out _ _ hS) ?_);clear hS;rintro e w ⟨v2,m2,rfl,hO,hS⟩;obtain⟨A2,c2,rfl,hO2⟩:=IL.own hO;clear hO))|(go_at_call 81;((with_reducible refine yI (of_any_p E _ _ _ _ _ _ _ hO2 hsm Src.head hS) ?_);clear hS;rintro e w ⟨v3,m3,rfl,hO3,hS⟩;obtain⟨A3,c3,rfl,hO4⟩:=IL.own hO3;clear hO3)))
   go_ret;refine⟨_,_,_,rfl,hO4,hS.sub ?_⟩;exact List.Sublist.cons_cons _ (List.Sublist.cons _ (List.Sublist.cons _ (kBb _)))
 . rw[jAa h]
   have d1:((Yk t 1 0).1 != 0)=true:=by simpa using h
   unfold Tr.val at *
   generalize (Yk t 1 0).1=x at *
   clear hin h;go_enter Tryz.func39,Tryz.ntmps39;go_wp2_with (first|(refine aL ?_)|(refine aX ?_;clear hS;intro X w hS)|(go_at_call 38;((with_reducible refine yI (CK.out _ _ hS) ?_);clear hS;rintro e w ⟨rfl,hS⟩)))
   go_ret;exact⟨_,_,_,rfl,IL.nil,hS.drop.empty⟩
theorem putF_true(v:Int):∀(l acc:List Int),l.foldl (Kw v) (acc,true)=(acc++l,true):=by
 intro l
 induction l with
 | nil=>intro acc;simp
 | cons x l ih=>intro acc;simp[Kw,ih]
theorem putF_eq(v:Int):∀(l acc:List Int),(if (l.foldl (Kw v) (acc,false)).2 then (l.foldl (Kw v) (acc,false)).1 else (l.foldl (Kw v) (acc,false)).1++[v])=acc++(l.takeWhile λx=>!decide (v<x))++v::(l.dropWhile λx=>!decide (v<x)):=by
 intro l
 induction l with
 | nil=>intro acc;simp
 | cons x l ih =>
   intro acc;by_cases h:v<x
   . simp[Kw,h,putF_true]
   . simp[Kw,h,ih]
theorem putL_eq(v:Int)(l:List Int):putL v l=(l.takeWhile λx=>!decide (v<x))++v::(l.dropWhile λx=>!decide (v<x)):=by
 have:=putF_eq v l [];unfold putL putF;rw[this];simp
theorem putL_mem(v:Int)(l:List Int)(x:Int):x∈putL v l↔x=v\/x∈l:=by
 rw[putL_eq];have h:=List.takeWhile_append_dropWhile (p:=λx=>!decide (v<x)) (l:=l);have hx:x∈l↔x∈l.takeWhile (λx=>!decide (v<x))\/x∈l.dropWhile (λx=>!decide (v<x)):=by rw[<- jH,h]
 rw[hx,jH,jBa];constructor
 . rintro (h|h|h)
   . exact .inr (.inl h)
   . exact .inl h
   . exact .inr (.inr h)
 . rintro (h|h|h)
   . exact .inr (.inl h)
   . exact .inl h
   . exact .inr (.inr h)
theorem dropWhile_head{p:Int->Bool}:∀{l:List Int} {y:Int} {r:List Int},l.dropWhile p=y::r->p y=false:=by
 intro l
 induction l with
 | nil=>intro y r h;simp at h
 | cons x l ih =>
   intro y r h;rw[List.dropWhile_cons] at h;split at h
   . exact ih h
   . rename_i hp
     injection h with h1 h2
     subst h1
     simpa using hp
theorem takeWhile_all{p:Int->Bool}:∀{l:List Int} {y:Int},y∈l.takeWhile p->p y=true:=by
 intro l
 induction l with
 | nil=>intro y h;simp at h
 | cons x l ih =>
   intro y h;rw[List.takeWhile_cons] at h;split at h
   . rename_i hp
     rcases jBa.1 h with rfl|h
     . exact hp
     . exact ih h
   . simp at h
theorem putL_sorted(v:Int)(l:List Int)(hl:l.Pairwise (· < ·))(hv:v∉l):(putL v l).Pairwise (· < ·):=by
 rw[putL_eq];have h:=List.takeWhile_append_dropWhile (p:=λx=>!decide (v<x)) (l:=l);generalize hp:(λx:Int=>!decide (v<x))=p at *
 have ha:=@takeWhile_all p l;have hb:=@dropWhile_head p l;generalize l.takeWhile p=a at *
 generalize l.dropWhile p=b at *
 subst h;obtain⟨h1,h2,h3⟩:=kT.1 hl;have hav:∀x∈a,x<v:=λx hx=>by
  have:=ha hx;rw[<- hp] at this;have hne:x≠v:=λe=>hv (by rw[<- e];exact jRa _ hx)
  simp at this
  omega
 have hbv:∀x∈b,v<x:=λx hx=>by
  cases b with
  | nil=>cases hx
  | cons y r =>
    have:=hb rfl;rw[<- hp] at this;simp at this
    rcases jBa.1 hx with rfl|hx
    . exact this
    . have:=(jLa.1 h2).1 x hx;omega
 refine kT.2 ⟨h1,jLa.2 ⟨hbv,h2⟩,λx hx y hy=>?_⟩;rcases jBa.1 hy with rfl|hy
 . exact hav x hx
 . exact h3 x hx y hy
theorem ofL_all:∀(l s:List Int),s.Pairwise (· < ·)->(l.foldl Xn s).Pairwise (· < ·)/\∀x,x∈l.foldl Xn s↔x∈s\/x∈l:=by
 intro l
 induction l with
 | nil=>intro s hs;exact⟨hs,λx=>by simp⟩
 | cons y l ih =>
   intro s hs;have h1:(Xn s y).Pairwise (· < ·):=by
    unfold Xn;split
    . exact hs
    . rename_i h;exact putL_sorted y s hs h
   have h2:∀x,x∈Xn s y↔x∈s\/x=y:=λx=>by
    unfold Xn;split
    . rename_i h
      exact⟨.inl,λhx=>hx.elim id λe=>e ▸ h⟩
    . rw[putL_mem]
      exact or_comm
   obtain⟨h3,h4⟩:=ih (Xn s y) h1;refine⟨h3,λx=>?_⟩;rw[List.foldl_cons,h4,h2,jBa,or_assoc]
end
section
open Go.RowKit
mutual
def Tr.ex:Tr->G.Ex
 | .mk op var _ _ ks=>.mk op var (Tr.exs ks)
def Tr.exs:List Tr->List G.Ex
 | []=>[]
 | k::ks=>k.ex::Tr.exs ks
end
theorem Tr.exs_map(l:List Tr):Tr.exs l=l.map Tr.ex:=by
 induction l with
 | nil=>rw[Tr.exs];rfl
 | cons k ks ih=>rw[Tr.exs,ih];rfl
theorem Tr.exs_len(l:List Tr):(Tr.exs l).length=l.length:=by rw[Tr.exs_map,jHb]
mutual
theorem Tr.ex_sz:∀t:Tr,t.ex.sz=t.size
 | .mk op var A cap ks=>by rw[Tr.ex,G.Ex.sz,Tr.size,Tr.exs_szs ks,Nat.add_comm]
theorem Tr.exs_szs:∀l:List Tr,G.Ex.szs (Tr.exs l)=Tr.sizes l
 | []=>by rw[Tr.exs,G.Ex.szs,Tr.sizes]
 | k::ks=>by rw[Tr.exs,G.Ex.szs,Tr.sizes,Tr.ex_sz k,Tr.exs_szs ks]
end
theorem varsLs_mem{l:List Tr}{t:Tr}(h:t∈l){x:Int}(hx:x∈Xo t):x∈Kx l:=by
 induction l with
 | nil=>cases h
 | cons k ks ih =>
   rw[Kx,jH];rcases jBa.1 h with rfl|h
   . exact .inl hx
   . exact .inr (ih h)
theorem Tr.exOk{n:Nat}{t:Tr}(h:Ok t):(∀x∈Xo t,x<(n:Int))->G.ExOk n t.ex:=by
 induction h with
 | @mk op var A cap kids hw hk ih =>
   intro hv;rw[Xo] at hv;rw[Tr.ex];obtain⟨a1,a2,a3,a4⟩:=wrongP_ok hw;refine .mk ?_ λk hk'=>?_
   . have hop:=op_cases a1
     have hvar:op=3->var<(n:Int):=λh3=>hv var (by rw[jAb h3];simp)
     rw[Tr.exs_len];clear hv hk ih hw;generalize kids.length=q at *
     unfold few at a3;unfold many at a4;unfold G.shapeOk;rcases hop with rfl|rfl|rfl|rfl|rfl|rfl|rfl|rfl|rfl|rfl <;> simp at a2 a3 a4 hvar ⊢ <;> omega
   . rw[Tr.exs_map] at hk'
     obtain⟨t,ht,rfl⟩:=jF.1 hk';exact ih t ht λx hx=>hv x (by rw[jH];exact .inr (varsLs_mem ht hx))
theorem Tr.exs_drop{l:List Tr}{i:Nat}{t:Tr}(h:l[i]?=some t):Tr.exs (l.drop i)=t.ex::Tr.exs (l.drop (i+1)):=by
 have hi:=(yE.1 h);rw[jL hi.1,hi.2,Tr.exs]
end
section
open Go.RowKit
theorem pow_lt40{i:Nat}(h:i<=40):2^i<=1099511627776:=jFb (jTa (by decide) h) (by decide)
theorem rbit_any(k:Nat)(hk:k<=40)(w:World):Calls Tryz.prog 112 #[.int .i64 (k:Int)] w λe w'=>e=.returned (.int .i64 ((2^k:Nat):Int))/\w'=w:=by
 generalize hP:((2^k:Nat):Int)=P;have HPk:=yH hP;clear hP;go_enter Tryz.func112,Tryz.ntmps112;go_wp2
 go_loopw [3,4] (λv3 v4 wr=>∃i:Nat,i<=k/\v4=.int .i64 (i:Int)/\v3=.int .i64 ((2^i:Nat):Int)/\wr=w) (λ_ v4 _=>(k-intOf v4).toNat)
 case atStart=>exact⟨0,by omega,rfl,rfl,rfl⟩
 case round =>
  obtain⟨i,hi,rfl,rfl,rfl⟩:=hrel;by_cases hlt:i<k
  . have hp:=pow_lt40 (i:=i) (by omega)
    have HP:=yH (Nat.pow_succ 2 i);have i1:(i:Int)<(k:Int):=by omega
    generalize 2^i=p at *
    have e2:wrap64 (2*(p:Int))=2*(p:Int):=IntWalk.wrap64_in _ (by omega);go_wp2
    refine⟨⟨i+1,by omega,by go_num,?_,by  trivial⟩,by simp[intOf];omega⟩;rw[HP.out];congr 1
    omega
  . obtain rfl:i=k:=by omega
    have i1:¬(i:Int)<(i:Int):=by omega
    generalize hp:((2^i:Nat):Int)=p at *
    obtain rfl:p=P:=HPk.out;clear hp HPk;go_wp2
    go_ret;exact⟨rfl,rfl⟩
def Zp(n:Nat):Nat:=4*2^(2*n)+192*2^n
theorem room_any(n:Nat)(hn:n<=6)(w:World):Calls Tryz.prog 40 #[.int .i64 (n:Int),.int .i64 40] w λe w'=>e=.returned (.int .i64 ((Zp n:Nat):Int))/\w'=w:=by
 have HE:Hid (Calls Tryz.prog 83 #[.int .i64 (n:Int),.int .i64 40] w λe w'=>e=.returned (.int .i64 ((Zp n:Nat):Int))/\w'=w):=by
  refine yH ?_;have B1:=yH (rbit_any n (by omega) w);have B2:=yH (show Calls Tryz.prog 112 #[.int .i64 (2*(n:Int))] w λe w'=>e=.returned (.int .i64 ((2^(2*n):Nat):Int))/\w'=w from rbit_any (2*n) (by omega) w);have p1:2^n<=64:=jFb (jTa (by decide) hn) (by decide);have p2:2^(2*n)<=4096:=jFb (jTa (by decide) (show 2*n<=12 by omega)) (by decide);have HR:=yH (show ((Zp n:Nat):Int)=4*((2^(2*n):Nat):Int)+192*((2^n:Nat):Int) from by unfold Zp;rw[Int.natCast_add,Int.natCast_mul,Int.natCast_mul];rfl);generalize 2^n=p at *
  generalize 2^(2*n)=q at *
  generalize ((Zp n:Nat):Int)=r at *
  have e0:wrap64 (2*(n:Int))=2*(n:Int):=IntWalk.wrap64_in _ (by omega);have e1:wrap64 (4*(q:Int))=4*(q:Int):=IntWalk.wrap64_in _ (by omega);have e2:wrap64 (192*(p:Int))=192*(p:Int):=IntWalk.wrap64_in _ (by omega);have e3:wrap64 (4*(q:Int)+192*(p:Int))=4*(q:Int)+192*(p:Int):=IntWalk.wrap64_in _ (by omega);go_enter Tryz.func83,Tryz.ntmps83;go_wp2_with (go_at_call 112;first|((with_reducible refine yI B2.out ?_);rintro e w2 ⟨rfl,rfl⟩)|((with_reducible refine yI B1.out ?_);rintro e w2 ⟨rfl,rfl⟩))
  go_ret;rw[HR.out];exact⟨rfl,rfl⟩
 generalize ((Zp n:Nat):Int)=r at *
 go_enter Tryz.func40,Tryz.ntmps40;go_wp2_with (go_at_call 83;(with_reducible refine yI HE.out ?_);rintro e w2 ⟨rfl,rfl⟩)
 go_ret;exact⟨rfl,rfl⟩
theorem mconst_any(D:Nat)(b:Bool)(w:World):Calls Tryz.prog 86 #[vPt D,.bool b] w λe w'=>e=.returned (.int .i64 (if b then 1 else 0))/\w'=w:=by
 cases b
 all_goals
  go_enter Tryz.func86,Tryz.ntmps86;go_wp2
  go_ret;exact⟨rfl,rfl⟩
end
section
open Go.RowKit
def BuildC(S:G.Sem)(n H R b:Nat):Prop:=∀(t:Tr) (E:World) (I:PH) (ms:List PH) (w:World) (D:Nat) (m m':G.Mg) (p:PH) (h:Nat),t.size<=b->In I t->G.ExOk n t.ex->G.Sd S n m->G.Fit n H m (t.ex.sz+3) (3*t.ex.sz)->m.s.pl.room=R->G.buildM t.ex m=some (m',h,true)->MgAt D m p->Sat E I (p::ms) w ->
 Calls Tryz.prog 42 #[vPt D,t.val] w λe w'=>e=.returned (.tuple #[nv h,.bool true])/\∃p',MgAt D m' p'/\Sat E I (p'::ms) w'
section
variable{S:G.Sem} {n H R:Nat} {E w:World} {I p:PH} {ms:List PH} {D:Nat} {m m':G.Mg} {r:Nat}
theorem mconst_t(D:Nat)(w:World):Calls Tryz.prog 86 #[vPt D,.bool true] w λe w'=>e=.returned (.int .i64 1)/\w'=w:=mconst_any D true w
theorem mconst_f(D:Nat)(w:World):Calls Tryz.prog 86 #[vPt D,.bool false] w λe w'=>e=.returned (.int .i64 0)/\w'=w:=mconst_any D false w
theorem build12(hs:G.Sd S n m){op var:Int}{A:Option Addr}{cap:Nat}{kids:List Tr}(hop:op=1\/op=2)(hm:G.buildM (Tr.mk op var A cap kids).ex m=some (m',r,true))(hA:MgAt D m p)(hS:Sat E I (p::ms) w) :
  Calls Tryz.prog 42 #[vPt D,(Tr.mk op var A cap kids).val] w λe w'=>e=.returned (.tuple #[nv r,.bool true])/\∃p',MgAt D m' p'/\Sat E I (p'::ms) w':=by
 rw[Tr.ex] at hm;have hc:=G.build_const hop hm;have HA:=yH hA;unfold Tr.val;simp only[Tr.op,Tr.var,Tr.A,Tr.kids,Tr.cap] at *
 rcases hop with rfl|rfl
 . have HC:Hid (∀(w:World) (ms:List PH),Sat E I (p::ms) w->Calls Tryz.prog 85 #[vPt D,.int .i64 1] w λe w'=>e=.returned (.tuple #[nv r,.int .i64 0])/\∃p',MgAt D m' p'/\Sat E I (p'::ms) w'):=yH λw ms hS=>wcopy_any hs (by rwa [jAb rfl] at hc) hA hS
   clear hm hc hs hA;go_enter Tryz.func42,Tryz.ntmps42;go_wp2_with (first
    | (go_at_call 86;(with_reducible refine yI (mconst_t _ _) ?_);rintro e w2 ⟨rfl,rfl⟩)
    | (go_at_call 85;(with_reducible refine yI (HC.out _ _ hS.sw) ?_);clear hS;rintro e w ⟨rfl,p1,hA1,hS⟩;have HA1:=yH hA1;clear hA1)
    | ((with_reducible refine Qu ?_);first|((with_reducible refine Qe ?_);( (refine ld1 0 hS rfl rfl ?ha rfl rfl rfl ?_;(case ha=>exact Qh)) );(try simp only[Act.put,zE,zF,zG]))|((with_reducible refine isBox ?_);refine bx hS rfl rfl rfl ?_;clear hS;intro X w hS;(try simp only[Act.eval,zD,zC,zA,zB,zJ,Value.cells] at hS);(try simp only[Act.put,zE,zF,zG])) ))
   go_ret2;exact⟨rfl,p1,HA1.out,hS.sw.drop⟩
 . have HC:Hid (∀(w:World) (ms:List PH),Sat E I (p::ms) w->Calls Tryz.prog 85 #[vPt D,.int .i64 0] w λe w'=>e=.returned (.tuple #[nv r,.int .i64 0])/\∃p',MgAt D m' p'/\Sat E I (p'::ms) w'):=yH λw ms hS=>wcopy_any hs (by rwa [jAa (by decide)] at hc) hA hS
   clear hm hc hs hA;go_enter Tryz.func42,Tryz.ntmps42;go_wp2_with (first
    | (go_at_call 86;(with_reducible refine yI (mconst_f _ _) ?_);rintro e w2 ⟨rfl,rfl⟩)
    | (go_at_call 85;(with_reducible refine yI (HC.out _ _ hS.sw) ?_);clear hS;rintro e w ⟨rfl,p1,hA1,hS⟩;have HA1:=yH hA1;clear hA1)
    | ((with_reducible refine Qu ?_);first|((with_reducible refine Qe ?_);( (refine ld1 0 hS rfl rfl ?ha rfl rfl rfl ?_;(case ha=>exact Qh)) );(try simp only[Act.put,zE,zF,zG]))|((with_reducible refine isBox ?_);refine bx hS rfl rfl rfl ?_;clear hS;intro X w hS;(try simp only[Act.eval,zD,zC,zA,zB,zJ,Value.cells] at hS);(try simp only[Act.put,zE,zF,zG])) ))
   go_ret2;exact⟨rfl,p1,HA1.out,hS.sw.drop⟩
theorem build3(hs:G.Sd S n m)(hH:m.hs.length<1152921504606846976)(hr:m.s.pl.room<=900000){var:Int}{A:Option Addr}{cap:Nat}{kids:List Tr}(hv:0<=var/\var<n)(hm:G.buildM (Tr.mk 3 var A cap kids).ex m=some (m',r,true))(hA:MgAt D m p)(hS:Sat E I (p::ms) w) :
  Calls Tryz.prog 42 #[vPt D,(Tr.mk 3 var A cap kids).val] w λe w'=>e=.returned (.tuple #[nv r,.bool true])/\∃p',MgAt D m' p'/\Sat E I (p'::ms) w':=by
 rw[Tr.ex] at hm;have hc:=G.build_var hm;have HA:=yH hA;unfold Tr.val;simp only[Tr.op,Tr.var,Tr.A,Tr.kids,Tr.cap] at *
 obtain⟨k,rfl⟩:∃k:Nat,var=(k:Int):=⟨var.toNat,by omega⟩;have HC:=yH (λ(w:World) (ms:List PH) (hS:Sat E I (p::ms) w)=>wvar_any hs hH hr (x:=k) (by omega) hc hA hS);clear hm hc hs hA hH hr hv;go_enter Tryz.func42,Tryz.ntmps42;go_wp2_with (first
  | (go_at_call 27;(with_reducible refine yI (HC.out _ _ hS.sw) ?_);clear hS;rintro e w ⟨rfl,p1,hA1,hS⟩;have HA1:=yH hA1;clear hA1)
  | ((with_reducible refine Qu ?_);first|((with_reducible refine Qe ?_);( (refine ld1 0 hS rfl rfl ?ha rfl rfl rfl ?_;(case ha=>exact Qh)) );(try simp only[Act.put,zE,zF,zG]))|((with_reducible refine isBox ?_);refine bx hS rfl rfl rfl ?_;clear hS;intro X w hS;(try simp only[Act.eval,zD,zC,zA,zB,zJ,Value.cells] at hS);(try simp only[Act.put,zE,zF,zG])) ))
 go_ret2;exact⟨rfl,p1,HA1.out,hS.sw.drop⟩
theorem build567(hS1:∀φ ψ χ,S 1 φ ψ χ=G.iteF φ ψ χ)(hR9:R<=900000){b:Nat}(hB:BuildC S n H R b)(hs:G.Sd S n m){op var:Int}{A:Option Addr}{cap:Nat}{kids:List Tr}(hop:op=5\/op=6\/op=7)(hin:In I (Tr.mk op var A cap kids))(hsz:∀k∈kids,k.size<=b)(hlen:kids.length<=100000)
  (hok:G.ExOk n (Tr.mk op var A cap kids).ex)(f:G.Fit n H m (G.Ex.szs (Tr.exs kids)+4) (3*G.Ex.szs (Tr.exs kids)+3))(hR:m.s.pl.room=R)(hm:G.buildM (Tr.mk op var A cap kids).ex m=some (m',r,true))(hA:MgAt D m p)(hS:Sat E I (p::ms) w) :
  Calls Tryz.prog 42 #[vPt D,(Tr.mk op var A cap kids).val] w λe w'=>e=.returned (.tuple #[nv r,.bool true])/\∃p',MgAt D m' p'/\Sat E I (p'::ms) w':=by
 have Hin:=yH hin.at_;have hksO:∀k∈kids,G.ExOk n k.ex:=by
  rw[Tr.ex] at hok;cases hok with
  | mk _ h2=>exact λk hk=>h2 _ (by rw[Tr.exs_map];exact jWa hk)
 rw[Tr.ex] at hm hok;obtain⟨m1,h1,hcp,hst⟩:=G.build_fold hok hop hs f hR hm;have HSt0:=yH hst;have HB:=yH (λ(w:World) (q:PH) (ms:List PH) (k:Tr) (mi ma:G.Mg) (g:Nat) (hk:k∈kids) (hki:In I k) (h1:G.Sd S n mi) (h2:G.Fit n H mi (k.ex.sz+3) (3*k.ex.sz)) (h3:mi.s.pl.room=R) (h4:G.buildM k.ex mi=some (ma,g,true)) (hA:MgAt D mi q) (hS:Sat E I (q::ms) w)=>hB k E I ms w D mi ma q g (hsz k hk) hki (hksO k hk) h1 h2 h3 h4 hA hS);have HJ:=yH (λ(w:World) (q:PH) (ms:List PH) (ma mb:G.Mg) (x y z:Nat) (h:G.JoinOk S n H R ma x y) (hj:G.joinM ma op x y=some (mb,z,true)) (hA:MgAt D ma q) (hS:Sat E I (q::ms) w)=>by
  obtain⟨j1,j2,j3,⟨φ,j4⟩,⟨ψ,j5⟩,j6,j7,j8⟩:=h;exact wjoin_any hS1 j1 j2 (by rw[j3];exact hR9) j4 j5 j6 j7 j8 (by omega:op=5\/op=6\/op=7\/op=8\/op=9) hj hA hS)
 have HStep:=yH (λ(i:Nat) (k:Tr) (mi:G.Mg) (x:Nat) (hk:kids[i]?=some k) (q:G.FoldSt S n H R op (Tr.exs (kids.drop i)) mi x m' r)=>by
  rw[Tr.exs_drop hk] at q;exact (And.intro q (q.step hS1 hop)))
 have HCp:Hid (∀(w:World) (ms:List PH),Sat E I (p::ms) w->Calls Tryz.prog 85 #[vPt D,.int .i64 (if op=5 then 1 else 0)] w λe w'=>e=.returned (.tuple #[nv h1,.int .i64 0])/\∃p',MgAt D m1 p'/\Sat E I (p'::ms) w'):=yH λw ms hS=>wcopy_any hs hcp hA hS
 clear hm hcp hst hs hA f hR hok hksO hsz hin hB hR9 hS1;unfold Tr.val;simp only[Tr.op,Tr.var,Tr.A,Tr.kids,Tr.cap] at *
 have HS0:=yH hS;clear hS;rcases hop with rfl|rfl|rfl
 . rw[jAb rfl] at HCp
   have hS:=HS0.out;clear HS0;go_enter Tryz.func42,Tryz.ntmps42;go_wp2_with (first
    | (go_at_call 86;(with_reducible refine yI (mconst_t _ _) ?_);rintro e w2 ⟨rfl,rfl⟩)
    | (go_at_call 85;(with_reducible refine yI (HCp.out _ _ hS.sw) ?_);clear hS;rintro e w ⟨rfl,p1,hA1,hS⟩;have HA1:=yH hA1;clear hA1)
    | ((with_reducible refine Qu ?_);first|((with_reducible refine Qe ?_);( (refine ld1 0 hS rfl rfl ?ha rfl rfl rfl ?_;(case ha=>exact Qh)) );(try simp only[Act.put,zE,zF,zG]))|((with_reducible refine isBox ?_);refine bx hS rfl rfl rfl ?_;clear hS;intro X w hS;(try simp only[Act.eval,zD,zC,zA,zB,zJ,Value.cells] at hS);(try simp only[Act.put,zE,zF,zG])) ))
   have HS1:=yH hS;clear hS;go_loopw [10,12,13] (λv10 v12 v13 wr=>∃(i:Nat) (mi:G.Mg) (hi:Nat) (pi:PH),i<=kids.length/\v13=.int .i64 i/\v10=nv hi/\v12=.bool true/\G.FoldSt S n H R 5 (Tr.exs (kids.drop i)) mi hi m' r/\MgAt D mi pi/\Sat E I (pi::PH.one X (.cells #[.int .i64 5,.int .i64 var,.slice A kids.length cap] 87)::ms) wr) (λ_ _ v13 _=>(kids.length-intOf v13).toNat)
   case atStart=>exact⟨0,m1,h1,p1,jC _,rfl,rfl,rfl,HSt0.out,HA1.out,HS1.out⟩
   case round =>
    clear HS1 HA1 HSt0;obtain⟨i,mi,hi,pi,hle,rfl,rfl,rfl,hst,hA,hS⟩:=hrel;by_cases hlt:i<kids.length
    . obtain⟨Y,off,rfl,hc⟩:=Hin.out (by omega)
      obtain⟨kd,hget⟩:∃kd,kids[i]?=some kd:=⟨_,yA hlt⟩;obtain⟨hcell,hkin⟩:=hc i kd hget;obtain⟨hq,hfe,ma,g,mb,h2,hbu,hjo,hjm,hst2⟩:=HStep.out i kd mi hi hget hst;have HBk:=yH (λ(w:World) (ms:List PH) (hS:Sat E I (pi::ms) w)=>HB.out w pi ms kd mi ma g (jCb hget) hkin hq.ok hfe hq.room hbu hA hS);have HJk:=yH (λ(w:World) (q:PH) (ms:List PH) (hA:MgAt D ma q) (hS:Sat E I (q::ms) w)=>HJ.out w q ms ma mb hi g h2 hjo hjm hA hS);have HSt2:=yH hst2;unfold Tr.cells at hcell;unfold Tr.val at HBk;have k0:(0:Int)<=(i:Int):=by omega
      have k1:(i:Int)<(kids.length:Int):=by omega
      have k2:decide ((i:Int)<(kids.length:Int))=true:=by rw[jPb];omega
      clear hget hc hkin hst hq hfe hbu hjo hjm hst2 hA;go_wp2_with (first
       | (go_at_call 42;(with_reducible refine yI (HBk.out _ _ hS) ?_);clear hS;rintro e w ⟨rfl,pa,hA,hS⟩;have HAa:=yH hA;clear hA)
       | (go_at_call 87;(with_reducible refine yI (HJk.out _ _ _ HAa.out hS) ?_);clear hS;rintro e w ⟨rfl,pb,hA,hS⟩;have HAb:=yH hA;clear hA)
       | ((with_reducible refine Qu ?_);  ((with_reducible refine Qe ?_);(first|(refine ld1 1 hS rfl rfl ?ha rfl rfl rfl ?_;(case ha=>first|exact Qh|exact Yc))|((refine' ldIN (vs:=_) hS rfl rfl ?ha rfl ?hc ?hb ?_);(case ha=>exact Xl);(case hc=>assumption);(case hb=>exact Xd)));(try simp only[Act.put,zE,zF,zG])) ))
      exact⟨⟨i+1,mb,h2,pb,hlt,by go_num,rfl,rfl,HSt2.out,HAb.out,hS⟩,by simp[intOf];omega⟩
    . obtain rfl:i=kids.length:=by omega
      have k2:decide ((kids.length:Int)<(kids.length:Int))=false:=by rw[jD];omega
      rw[List.drop_length,Tr.exs] at hst;obtain⟨rfl,rfl⟩:=hst.done;have HA2:=yH hA;clear hst hA;go_wp2_with (first|((with_reducible refine Qu ?_);  ((with_reducible refine Qe ?_);( (refine ld1 1 hS rfl rfl ?ha rfl rfl rfl ?_;(case ha =>  exact Yc)) );(try simp only[Act.put,zE,zF,zG])) ))
      go_ret2;exact⟨rfl,pi,HA2.out,hS.sw.drop⟩
 . rw[jAa (by decide)] at HCp
   have hS:=HS0.out;clear HS0;go_enter Tryz.func42,Tryz.ntmps42;go_wp2_with (first
    | (go_at_call 86;(with_reducible refine yI (mconst_f _ _) ?_);rintro e w2 ⟨rfl,rfl⟩)
    | (go_at_call 85;(with_reducible refine yI (HCp.out _ _ hS.sw) ?_);clear hS;rintro e w ⟨rfl,p1,hA1,hS⟩;have HA1:=yH hA1;clear hA1)
    | ((with_reducible refine Qu ?_);first|((with_reducible refine Qe ?_);( (refine ld1 0 hS rfl rfl ?ha rfl rfl rfl ?_;(case ha=>exact Qh)) );(try simp only[Act.put,zE,zF,zG]))|((with_reducible refine isBox ?_);refine bx hS rfl rfl rfl ?_;clear hS;intro X w hS;(try simp only[Act.eval,zD,zC,zA,zB,zJ,Value.cells] at hS);(try simp only[Act.put,zE,zF,zG])) ))
   have HS1:=yH hS;clear hS;go_loopw [10,12,13] (λv10 v12 v13 wr=>∃(i:Nat) (mi:G.Mg) (hi:Nat) (pi:PH),i<=kids.length/\v13=.int .i64 i/\v10=nv hi/\v12=.bool true/\G.FoldSt S n H R 6 (Tr.exs (kids.drop i)) mi hi m' r/\MgAt D mi pi/\Sat E I (pi::PH.one X (.cells #[.int .i64 6,.int .i64 var,.slice A kids.length cap] 87)::ms) wr) (λ_ _ v13 _=>(kids.length-intOf v13).toNat)
   case atStart=>exact⟨0,m1,h1,p1,jC _,rfl,rfl,rfl,HSt0.out,HA1.out,HS1.out⟩
   case round =>
    clear HS1 HA1 HSt0;obtain⟨i,mi,hi,pi,hle,rfl,rfl,rfl,hst,hA,hS⟩:=hrel;by_cases hlt:i<kids.length
    . obtain⟨Y,off,rfl,hc⟩:=Hin.out (by omega)
      obtain⟨kd,hget⟩:∃kd,kids[i]?=some kd:=⟨_,yA hlt⟩;obtain⟨hcell,hkin⟩:=hc i kd hget;obtain⟨hq,hfe,ma,g,mb,h2,hbu,hjo,hjm,hst2⟩:=HStep.out i kd mi hi hget hst;have HBk:=yH (λ(w:World) (ms:List PH) (hS:Sat E I (pi::ms) w)=>HB.out w pi ms kd mi ma g (jCb hget) hkin hq.ok hfe hq.room hbu hA hS);have HJk:=yH (λ(w:World) (q:PH) (ms:List PH) (hA:MgAt D ma q) (hS:Sat E I (q::ms) w)=>HJ.out w q ms ma mb hi g h2 hjo hjm hA hS);have HSt2:=yH hst2;unfold Tr.cells at hcell;unfold Tr.val at HBk;have k0:(0:Int)<=(i:Int):=by omega
      have k1:(i:Int)<(kids.length:Int):=by omega
      have k2:decide ((i:Int)<(kids.length:Int))=true:=by rw[jPb];omega
      clear hget hc hkin hst hq hfe hbu hjo hjm hst2 hA;go_wp2_with (first
       | (go_at_call 42;(with_reducible refine yI (HBk.out _ _ hS) ?_);clear hS;rintro e w ⟨rfl,pa,hA,hS⟩;have HAa:=yH hA;clear hA)
       | (go_at_call 87;(with_reducible refine yI (HJk.out _ _ _ HAa.out hS) ?_);clear hS;rintro e w ⟨rfl,pb,hA,hS⟩;have HAb:=yH hA;clear hA)
       | ((with_reducible refine Qu ?_);  ((with_reducible refine Qe ?_);(first|(refine ld1 1 hS rfl rfl ?ha rfl rfl rfl ?_;(case ha=>first|exact Qh|exact Yc))|((refine' ldIN (vs:=_) hS rfl rfl ?ha rfl ?hc ?hb ?_);(case ha=>exact Xl);(case hc=>assumption);(case hb=>exact Xd)));(try simp only[Act.put,zE,zF,zG])) ))
      exact⟨⟨i+1,mb,h2,pb,hlt,by go_num,rfl,rfl,HSt2.out,HAb.out,hS⟩,by simp[intOf];omega⟩
    . obtain rfl:i=kids.length:=by omega
      have k2:decide ((kids.length:Int)<(kids.length:Int))=false:=by rw[jD];omega
      rw[List.drop_length,Tr.exs] at hst;obtain⟨rfl,rfl⟩:=hst.done;have HA2:=yH hA;clear hst hA;go_wp2_with (first|((with_reducible refine Qu ?_);  ((with_reducible refine Qe ?_);( (refine ld1 1 hS rfl rfl ?ha rfl rfl rfl ?_;(case ha =>  exact Yc)) );(try simp only[Act.put,zE,zF,zG])) ))
      go_ret2;exact⟨rfl,pi,HA2.out,hS.sw.drop⟩
 . rw[jAa (by decide)] at HCp
   have hS:=HS0.out;clear HS0;go_enter Tryz.func42,Tryz.ntmps42;go_wp2_with (first
    | (go_at_call 86;(with_reducible refine yI (mconst_f _ _) ?_);rintro e w2 ⟨rfl,rfl⟩)
    | (go_at_call 85;(with_reducible refine yI (HCp.out _ _ hS.sw) ?_);clear hS;rintro e w ⟨rfl,p1,hA1,hS⟩;have HA1:=yH hA1;clear hA1)
    | ((with_reducible refine Qu ?_);first|((with_reducible refine Qe ?_);( (refine ld1 0 hS rfl rfl ?ha rfl rfl rfl ?_;(case ha=>exact Qh)) );(try simp only[Act.put,zE,zF,zG]))|((with_reducible refine isBox ?_);refine bx hS rfl rfl rfl ?_;clear hS;intro X w hS;(try simp only[Act.eval,zD,zC,zA,zB,zJ,Value.cells] at hS);(try simp only[Act.put,zE,zF,zG])) ))
   have HS1:=yH hS;clear hS;go_loopw [10,12,13] (λv10 v12 v13 wr=>∃(i:Nat) (mi:G.Mg) (hi:Nat) (pi:PH),i<=kids.length/\v13=.int .i64 i/\v10=nv hi/\v12=.bool true/\G.FoldSt S n H R 7 (Tr.exs (kids.drop i)) mi hi m' r/\MgAt D mi pi/\Sat E I (pi::PH.one X (.cells #[.int .i64 7,.int .i64 var,.slice A kids.length cap] 87)::ms) wr) (λ_ _ v13 _=>(kids.length-intOf v13).toNat)
   case atStart=>exact⟨0,m1,h1,p1,jC _,rfl,rfl,rfl,HSt0.out,HA1.out,HS1.out⟩
   case round =>
    clear HS1 HA1 HSt0;obtain⟨i,mi,hi,pi,hle,rfl,rfl,rfl,hst,hA,hS⟩:=hrel;by_cases hlt:i<kids.length
    . obtain⟨Y,off,rfl,hc⟩:=Hin.out (by omega)
      obtain⟨kd,hget⟩:∃kd,kids[i]?=some kd:=⟨_,yA hlt⟩;obtain⟨hcell,hkin⟩:=hc i kd hget;obtain⟨hq,hfe,ma,g,mb,h2,hbu,hjo,hjm,hst2⟩:=HStep.out i kd mi hi hget hst;have HBk:=yH (λ(w:World) (ms:List PH) (hS:Sat E I (pi::ms) w)=>HB.out w pi ms kd mi ma g (jCb hget) hkin hq.ok hfe hq.room hbu hA hS);have HJk:=yH (λ(w:World) (q:PH) (ms:List PH) (hA:MgAt D ma q) (hS:Sat E I (q::ms) w)=>HJ.out w q ms ma mb hi g h2 hjo hjm hA hS);have HSt2:=yH hst2;unfold Tr.cells at hcell;unfold Tr.val at HBk;have k0:(0:Int)<=(i:Int):=by omega
      have k1:(i:Int)<(kids.length:Int):=by omega
      have k2:decide ((i:Int)<(kids.length:Int))=true:=by rw[jPb];omega
      clear hget hc hkin hst hq hfe hbu hjo hjm hst2 hA;go_wp2_with (first
       | (go_at_call 42;(with_reducible refine yI (HBk.out _ _ hS) ?_);clear hS;rintro e w ⟨rfl,pa,hA,hS⟩;have HAa:=yH hA;clear hA)
       | (go_at_call 87;(with_reducible refine yI (HJk.out _ _ _ HAa.out hS) ?_);clear hS;rintro e w ⟨rfl,pb,hA,hS⟩;have HAb:=yH hA;clear hA)
       | ((with_reducible refine Qu ?_);  ((with_reducible refine Qe ?_);(first|(refine ld1 1 hS rfl rfl ?ha rfl rfl rfl ?_;(case ha=>first|exact Qh|exact Yc))|((refine' ldIN (vs:=_) hS rfl rfl ?ha rfl ?hc ?hb ?_);(case ha=>exact Xl);(case hc=>assumption);(case hb=>exact Xd)));(try simp only[Act.put,zE,zF,zG])) ))
      exact⟨⟨i+1,mb,h2,pb,hlt,by go_num,rfl,rfl,HSt2.out,HAb.out,hS⟩,by simp[intOf];omega⟩
    . obtain rfl:i=kids.length:=by omega
      have k2:decide ((kids.length:Int)<(kids.length:Int))=false:=by rw[jD];omega
      rw[List.drop_length,Tr.exs] at hst;obtain⟨rfl,rfl⟩:=hst.done;have HA2:=yH hA;clear hst hA;go_wp2_with (first|((with_reducible refine Qu ?_);  ((with_reducible refine Qe ?_);( (refine ld1 1 hS rfl rfl ?ha rfl rfl rfl ?_;(case ha =>  exact Yc)) );(try simp only[Act.put,zE,zF,zG])) ))
      go_ret2;exact⟨rfl,pi,HA2.out,hS.sw.drop⟩
end
end
end Go.Proofs.YtidamcdklgfogaaGreat
