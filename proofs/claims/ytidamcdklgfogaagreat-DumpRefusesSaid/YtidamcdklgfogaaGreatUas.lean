import Derived.Test.YtidamcdklgfogaaGreatUaf
set_option linter.unusedVariables false
set_option linter.unusedSimpArgs false
namespace Go.Proofs.YtidamcdklgfogaaGreat
namespace G
abbrev Tb:=List Bool
abbrev Fn:=(Nat->Bool)->Bool
def Dep(n:Nat)(φ:Fn):Prop:=∀ρ ρ',(∀v,v<n->ρ v=ρ' v)->φ ρ=φ ρ'
def Xw(n:Nat)(φ:Fn):Tb:=(List.range (2^n)).map λi=>φ i.testBit
def idx:Nat->(Nat->Bool)->Nat
 | 0,_=>0
 | n+1,ρ=>idx n ρ+(if ρ n then 2^n else 0)
theorem idx_lt(ρ:Nat->Bool):∀n,idx n ρ<2^n
 | 0=>by simp[idx]
 | n+1=>by have:=idx_lt ρ n;unfold idx;rw[Nat.pow_succ];split <;> omega
theorem testBit_idx(ρ:Nat->Bool):∀n v,v<n->(idx n ρ).testBit v=ρ v
 | n+1,v,hv=>by
   have hl:=idx_lt ρ n;have e:idx (n+1) ρ=2^n*(if ρ n then 1 else 0)+idx n ρ:=by show idx n ρ+(if ρ n then 2^n else 0)=_;split <;> omega
   rw[e,kWb _ hl];by_cases h:v<n
   . rw[jAb h,testBit_idx ρ n v h]
   . have:v=n:=by omega
     subst this;rw[jAa h,qCa];cases ρ v <;> decide
theorem Dep.idx{n:Nat}{φ:Fn}(h:Dep n φ)(ρ:Nat->Bool):φ (idx n ρ).testBit=φ ρ:=h _ _ λv hv=>testBit_idx ρ n v hv
theorem Xu(n:Nat)(φ:Fn):(Xw n φ).length=2^n:=by simp[Xw]
theorem tabOf_get{n:Nat}{φ:Fn}{i:Nat}(h:i<2^n):(Xw n φ)[i]?=some (φ i.testBit):=by simp[Xw,h]
theorem tabOf_getD{n:Nat}{φ:Fn}{i:Nat}(h:i<2^n):(Xw n φ).getD i false=φ i.testBit:=by rw[yD,tabOf_get h];rfl
theorem tabOf_inj{n:Nat}{φ ψ:Fn}(hφ:Dep n φ)(hψ:Dep n ψ):Xw n φ=Xw n ψ↔∀ρ,φ ρ=ψ ρ:=by
 refine⟨λh ρ=>?_,λh=>by rw[show φ=ψ from funext h]⟩;have h1:=jNa (λl=>l.getD (idx n ρ) false) h;simp only[tabOf_getD (idx_lt ρ n),hφ.idx,hψ.idx] at h1;exact h1
def fnOf(n:Nat)(x:Tb):Fn:=λρ=>x.getD (idx n ρ) false
theorem dep_fnOf(n:Nat)(x:Tb):Dep n (fnOf n x):=λρ ρ' h=>by
 have:∀m,m<=n->idx m ρ=idx m ρ':=λm hm=>by
  induction m with
  | zero=>rfl
  | succ m ih=>unfold idx;rw[ih (by omega),h m (by omega)]
 unfold fnOf;rw[this n (jBb n)]
theorem idx_testBit{n i:Nat}(h:i<2^n):idx n i.testBit=i :=
 Nat.eq_of_testBit_eq λv=>by
  by_cases hv:v<n
  . exact testBit_idx _ n v hv
  . rw[Nat.testBit_lt_two_pow (jZa (idx_lt _ n) (jTa (by decide) (by omega))),Nat.testBit_lt_two_pow (jZa h (jTa (by decide) (by omega)))]
theorem tabOf_fnOf{n:Nat}{x:Tb}(h:x.length=2^n):Xw n (fnOf n x)=x:=by
 refine kEb λi=>?_
 by_cases hi:i<2^n
 . rw[tabOf_get hi,show fnOf n x i.testBit=x.getD i false by unfold fnOf;rw[idx_testBit hi],yA (by omega)]
   simp[yD,yA (show i<x.length by omega)]
 . rw[jJ (by rw[Xu];omega),jJ (by omega)]
def cofP(i v:Nat)(b:Bool):Nat:=if i.testBit v && !b then i-2^v else if !i.testBit v&&b then i+2^v else i
def Zu(x:Tb)(v:Nat)(b:Bool):Tb:=(List.range x.length).map λi=>x.getD (cofP i v b) false
def Zb(x:Tb)(v:Nat):Bool:=!(Zu x v false==Zu x v true)
def topT(o:List Nat)(x:Tb):Option Nat:=o.find? (Zb x)
def notT(x:Tb):Tb:=x.map not
def lastT(x:Tb):Bool:=x.getD (x.length-1) false
def Zr(x:Tb):Tb:=if lastT x then x else notT x
theorem split_at(i v:Nat):i=2^v*(i/2^v)+i%2^v/\i%2^v<2^v:=⟨(Nat.div_add_mod i (2^v)).symm,Nat.mod_lt _ (qB v)⟩
theorem testBit_div(i v:Nat):i.testBit v=decide (i/2^v%2=1):=by
 obtain⟨h1,h2⟩:=split_at i v;rw[Nat.testBit_eq_decide_div_mod_eq]
theorem cofP_testBit(i v:Nat)(b:Bool):(cofP i v b).testBit=upd i.testBit v b:=by
 obtain⟨h1,h2⟩:=split_at i v;have hb:=testBit_div i v;generalize hq:i/2^v=q at *
 generalize i%2^v=r at *
 have key:∀q',q'/2=q/2->(q'%2=1↔b=true)->(2^v*q'+r).testBit=upd (2^v*q+r).testBit v b:=λq' he hp=>by
  funext w
  unfold upd;rw[kWb _ h2,kWb _ h2];by_cases hw:w=v
  . subst hw
    rw[jAb rfl,jAa (Nat.lt_irrefl w),qCa,Nat.testBit_zero];cases b <;> simp_all
  . rw[jAa hw]
    by_cases hlt:w<v
    . rw[jAb hlt,jAb hlt]
    . rw[jAa hlt,jAa hlt]
      obtain⟨m,hm⟩:∃m,w-v=m+1:=⟨w-v-1,by omega⟩;rw[hm,Nat.testBit_succ,Nat.testBit_succ,he]
 unfold cofP;by_cases h:q%2=1
 . have hbt:i.testBit v=true:=by rw[hb];simpa using h
   have hq1:1<=q:=by omega
   have hle:2^v<=2^v*q:=Nat.le_mul_of_pos_right _ hq1;cases b with
   | true=>rw[hbt];simp only[kC,Bool.and_false,Bool.false_and,jFa,jOb];rw[h1];exact key q rfl (by simp[h])
   | false =>
     rw[hbt];simp only[jW,Bool.and_true,jEb];rw[show i-2^v=2^v*(q-1)+r by rw[Nat.mul_sub,jG];omega,h1];exact key (q-1) (by omega) (by constructor <;> intro hx;omega;cases hx)
 . have hbt:i.testBit v=false:=by rw[hb];simpa using h
   cases b with
   | false=>rw[hbt];simp only[jW,Bool.and_true,jFa,jOb,jW,Bool.and_false];rw[h1];exact key q rfl (by simp[h])
   | true =>
     rw[hbt];simp only[kC,Bool.and_false,jFa,jOb,jW,Bool.and_true,jEb];rw[show i+2^v=2^v*(q+1)+r by rw[Nat.mul_add,jG];omega,h1];exact key (q+1) (by omega) (by constructor <;> intro hx;rfl;omega)
theorem cofP_lt{n i v:Nat}(hi:i<2^n)(hv:v<n)(b:Bool):cofP i v b<2^n :=
 Nat.lt_pow_two_of_testBit _ λw hw=>by
  rw[cofP_testBit];unfold upd;rw[jAa (by omega)];exact Nat.testBit_lt_two_pow (jZa hi (jTa (by decide) hw))
theorem cof_tabOf{n v:Nat}{φ:Fn}(hv:v<n)(b:Bool):Zu (Xw n φ) v b=Xw n (λρ=>φ (upd ρ v b)):=by
 refine kEb λi=>?_
 by_cases hi:i<2^n
 . rw[tabOf_get hi]
   unfold Zu;rw[jO,kKa (by rw[Xu];exact hi)];simp only[Option.map_some];rw[tabOf_getD (cofP_lt hi hv b),cofP_testBit]
 . rw[jJ (by simp[Zu,Xu];omega),jJ (by rw[Xu];omega)]
theorem Dep.upd{n:Nat}{φ:Fn}(h:Dep n φ)(v:Nat)(b:Bool):Dep n (λρ=>φ (G.upd ρ v b)):=λρ ρ' he=>h _ _ λw hw=>by unfold G.upd;split;rfl;exact he w hw
theorem upd_upd_same(ρ:Nat->Bool)(v:Nat)(b c:Bool):upd (upd ρ v b) v c=upd ρ v c:=funext λw=>by unfold upd;split <;> rfl
theorem upd_comm(ρ:Nat->Bool){v w:Nat}(b c:Bool)(h:v≠w):upd (upd ρ v b) w c=upd (upd ρ w c) v b:=funext λx=>by unfold upd;split <;> split <;> first|rfl|omega
theorem indep_upd{φ:Fn}{v:Nat}:Indep φ v↔∀ρ,φ (upd ρ v false)=φ (upd ρ v true):=by
 refine⟨λh ρ=>by rw[h,h],λh ρ b=>?_⟩;have h1:φ (upd ρ v (ρ v))=φ ρ:=by rw[upd_same]
 cases b <;> cases hr:ρ v <;> rw[hr] at h1
 . exact h1
 . rw[h];exact h1
 . rw[<- h];exact h1
 . exact h1
theorem hangs_tabOf{n v:Nat}{φ:Fn}(h:Dep n φ)(hv:v<n):Zb (Xw n φ) v=true↔¬Indep φ v:=by
 unfold Zb;rw[cof_tabOf hv,cof_tabOf hv,indep_upd,<- tabOf_inj (h.upd v false) (h.upd v true)];simp
theorem not_tabOf(n:Nat)(φ:Fn):notT (Xw n φ)=Xw n (λρ=>!φ ρ):=by simp[notT,Xw]
theorem last_tabOf(n:Nat)(φ:Fn):lastT (Xw n φ)=φ (2^n-1).testBit:=by
 unfold lastT;rw[Xu,tabOf_getD (by have:=qB n;omega)]
theorem notT_notT(x:Tb):notT (notT x)=x:=by simp[notT,Function.comp_def]
theorem notT_length(x:Tb):(notT x).length=x.length:=by simp[notT]
theorem cofT_length(x:Tb)(v:Nat)(b:Bool):(Zu x v b).length=x.length:=by simp[Zu]
theorem normT_length(x:Tb):(Zr x).length=x.length:=by unfold Zr;split;rfl;exact notT_length x
theorem lastT_not{x:Tb}(h:x≠[]):lastT (notT x)=!lastT x:=by
 have h0:x.length-1<x.length:=by have:x.length≠0:=λe=>h (List.length_eq_zero_iff.1 e);omega
 unfold lastT;rw[notT_length,yD,yD];simp[notT,yA h0]
theorem normT_not{x:Tb}(h:x≠[]):Zr (notT x)=Zr x:=by
 unfold Zr;rw[lastT_not h,notT_notT];cases lastT x <;> simp
def IsT(n:Nat)(x:Tb):Prop:=x.length=2^n
theorem IsT.ne{n:Nat}{x:Tb}(h:IsT n x):x≠[]:=λe=>by rw[e] at h;have:=qB n;simp[IsT] at h;omega
theorem IsT.cof{n:Nat}{x:Tb}(h:IsT n x)(v:Nat)(b:Bool):IsT n (Zu x v b):=(cofT_length x v b).trans h
theorem IsT.not{n:Nat}{x:Tb}(h:IsT n x):IsT n (notT x):=(notT_length x).trans h
theorem IsT.norm{n:Nat}{x:Tb}(h:IsT n x):IsT n (Zr x):=(normT_length x).trans h
theorem IsT.fn{n:Nat}{x:Tb}(h:IsT n x):∃φ,Dep n φ/\x=Xw n φ:=⟨fnOf n x,dep_fnOf n x,(tabOf_fnOf h).symm⟩
theorem IsT.cof_not{n v:Nat}{x:Tb}(h:IsT n x)(hv:v<n)(b:Bool):Zu (notT x) v b=notT (Zu x v b):=by
 obtain⟨φ,hφ,rfl⟩:=h.fn;rw[not_tabOf,cof_tabOf hv,cof_tabOf hv,not_tabOf]
theorem IsT.hangs_not{n v:Nat}{x:Tb}(h:IsT n x)(hv:v<n):Zb (notT x) v=Zb x v:=by
 unfold Zb;rw[h.cof_not hv,h.cof_not hv]
 have:(notT (Zu x v false)==notT (Zu x v true))=(Zu x v false==Zu x v true):=by
  rw[kRb,jRb,jRb];exact⟨λe=>by rw[<- notT_notT (Zu x v false),e,notT_notT],λe=>by rw[e]⟩
 rw[this]
theorem IsT.hangs_cof_self{n v:Nat}{x:Tb}(h:IsT n x)(hv:v<n)(b:Bool):Zb (Zu x v b) v=false:=by
 obtain⟨φ,hφ,rfl⟩:=h.fn;rw[cof_tabOf hv,Bool.eq_false_iff,Ne,hangs_tabOf (hφ.upd v b) hv,Classical.not_not];intro ρ c;show φ (upd (upd ρ v c) v b)=φ (upd ρ v b)
 rw[upd_upd_same]
theorem IsT.hangs_cof{n v w:Nat}{x:Tb}(h:IsT n x)(hv:v<n)(hw:w<n)(b:Bool)(hx:Zb x w=false):Zb (Zu x v b) w=false:=by
 by_cases he:v=w
 . subst he;exact h.hangs_cof_self hv b
 obtain⟨φ,hφ,rfl⟩:=h.fn;rw[Bool.eq_false_iff,Ne,hangs_tabOf hφ hw,Classical.not_not] at hx;rw[cof_tabOf hv,Bool.eq_false_iff,Ne,hangs_tabOf (hφ.upd v b) hw,Classical.not_not];intro ρ c;show φ (upd (upd ρ w c) v b)=φ (upd ρ v b)
 rw[upd_comm ρ c b (Ne.symm he),hx]
theorem IsT.norm_cases{x:Tb}:Zr x=x\/Zr x=notT x:=by unfold Zr;split;exact .inl rfl;exact .inr rfl
end G
namespace G
inductive Sr (o:List Nat):Tb->Tb->Prop
 | here {x:Tb} {v:Nat}:topT o x=some v->Sr o x (Zr x)
 | down {x y:Tb} {v:Nat} (b:Bool):topT o x=some v->Sr o (Zu x v b) y->Sr o x y
structure Ordr (n:Nat) (o:List Nat):Prop where
 lt:∀v∈o,v<n
 nodup:o.Nodup
def rkT(o:List Nat)(x:Tb):Nat:=o.findIdx (Zb x)
theorem topT_some{o:List Nat}{x:Tb}{v:Nat}(h:topT o x=some v):v∈o/\Zb x v=true:=⟨kTa h,List.find?_some h⟩
theorem rkT_lt{o:List Nat}{x:Tb}{v:Nat}(h:topT o x=some v):rkT o x<o.length:=List.findIdx_lt_length_of_exists ⟨v,topT_some h⟩
theorem topT_get{o:List Nat}{x:Tb}{v:Nat}(h:topT o x=some v):o[rkT o x]?=some v:=by
 unfold topT at h;unfold rkT
 induction o with
 | nil=>cases h
 | cons a l ih =>
   rw[List.find?_cons] at h;rw[List.findIdx_cons];cases ha:Zb x a with
   | true=>rw[ha] at h;injection h with h;subst h;rfl
   | false=>rw[ha] at h;simp only[cond_false,List.getElem?_cons_succ];exact ih h
theorem rkT_cof{n:Nat}{o:List Nat}(ho:Ordr n o){x:Tb}(hx:IsT n x){v:Nat}(h:topT o x=some v)(b:Bool):rkT o x<rkT o (Zu x v b):=by
 have hv:=ho.lt v (topT_some h).1;have hlt:=rkT_lt h;have hg:=topT_get h;refine Nat.lt_of_not_le λhle=>?_
 have hl2:rkT o (Zu x v b)<o.length:=Nat.lt_of_le_of_lt hle hlt;have h1:Zb (Zu x v b) (o[rkT o (Zu x v b)]'hl2)=true:=kXa (p:=Zb (Zu x v b)) (w:=hl2);rcases Nat.lt_or_eq_of_le hle with hl|he
 . have h2:Zb x (o[rkT o (Zu x v b)]'hl2)=false:=by
     have:=List.not_of_lt_findIdx (p:=Zb x) (xs:=o) hl
     simpa using this
   rw[hx.hangs_cof hv (ho.lt _ (jWb hl2)) b h2] at h1;cases h1
 . have:o[rkT o (Zu x v b)]'hl2=v:=by
     have h3:o[rkT o (Zu x v b)]?=some v:=by rw[he];exact hg
     rw[yA hl2] at h3;injection h3
   rw[this,hx.hangs_cof_self hv b] at h1;cases h1
theorem Sr.lift{n:Nat}{o:List Nat}(ho:Ordr n o){x y:Tb}(h:Sr o x y):IsT n x->IsT n y/\(topT o x).isSome=true:=by
 induction h with
 | here h=>exact λhx=>⟨hx.norm,by rw[h];rfl⟩
 | down b h _ ih=>exact λhx=>⟨(ih (hx.cof _ b)).1,by rw[h];rfl⟩
theorem topT_not{n:Nat}{o:List Nat}(ho:Ordr n o){x:Tb}(hx:IsT n x):topT o (notT x)=topT o x/\rkT o (notT x)=rkT o x:=by
 have:∀l:List Nat,(∀v∈l,v<n)->l.find? (Zb (notT x))=l.find? (Zb x)/\l.findIdx (Zb (notT x))=l.findIdx (Zb x):=λl hl=>by
  induction l with
  | nil=>exact⟨rfl,rfl⟩
  | cons a l ih =>
    obtain⟨h1,h2⟩:=ih λv hv=>hl v (kJa _ hv)
    rw[List.find?_cons,List.find?_cons,List.findIdx_cons,List.findIdx_cons,hx.hangs_not (hl a qCb),h1,h2];exact⟨rfl,rfl⟩
 exact this o ho.lt
theorem Sr.not{n:Nat}{o:List Nat}(ho:Ordr n o){x y:Tb}(h:Sr o x y):IsT n x->Sr o (notT x) y:=by
 induction h with
 | here h=>exact λhx=>by have:=Sr.here (o:=o) (x:=notT _) ((topT_not ho hx).1.trans h);rwa [normT_not hx.ne] at this
 | @down x y v b h _ ih =>
   intro hx;refine Sr.down b ((topT_not ho hx).1.trans h) ?_;rw[hx.cof_not (ho.lt v (topT_some h).1)];exact ih (hx.cof v b)
theorem Sr.norm{n:Nat}{o:List Nat}(ho:Ordr n o){x y:Tb}(hx:IsT n x):Sr o (Zr x) y↔Sr o x y:=by
 rcases IsT.norm_cases (x:=x) with e|e <;> rw[e]
 exact⟨λh=>by have:=h.not ho hx.not;rwa [notT_notT] at this,λh=>h.not ho hx⟩
theorem topT_norm{n:Nat}{o:List Nat}(ho:Ordr n o){x:Tb}(hx:IsT n x):topT o (Zr x)=topT o x/\rkT o (Zr x)=rkT o x:=by
 rcases IsT.norm_cases (x:=x) with e|e <;> rw[e]
 exact⟨rfl,rfl⟩;exact topT_not ho hx
theorem Sr.trans{n:Nat}{o:List Nat}(ho:Ordr n o){x y z:Tb}(h:Sr o x y):IsT n x->Sr o y z->Sr o x z:=by
 induction h with
 | here h=>exact λhx hz=>(Sr.norm ho hx).1 hz
 | down b h _ ih=>exact λhx hz=>Sr.down b h (ih (hx.cof _ b) hz)
theorem Sr.inv{o:List Nat}{x y:Tb}{v:Nat}(hv:topT o x=some v):Sr o x y↔y=Zr x\/Sr o (Zu x v false) y\/Sr o (Zu x v true) y:=by
 constructor
 . intro h
   cases h with
   | here h=>exact .inl rfl
   | down b h k =>
     rw[hv] at h;injection h with h
     subst h;cases b
     . exact .inr (.inl k)
     . exact .inr (.inr k)
 . rintro (rfl|h|h)
   . exact .here hv
   . exact .down false hv h
   . exact .down true hv h
theorem Sr.none{o:List Nat}{x y:Tb}(hv:topT o x=none):¬Sr o x y:=λh=>by
 cases h with
 | here h=>rw[hv] at h;cases h
 | down b h _=>rw[hv] at h;cases h
def belowT:Nat->List Nat->Tb->List Tb->List Tb
 | 0,_,_,l=>l
 | k+1,o,x,l=>match topT o x with
   | none=>l
   | some v=>if l.contains (Zr x) then l else belowT k o (Zu x v true) (belowT k o (Zu x v false) (l++[Zr x]))
def Clo(n:Nat)(o:List Nat)(r:Nat)(l:List Tb):Prop:=∀y∈l,r<=rkT o y->∀z,Sr o y z->z∈l
theorem belowT_ok{n:Nat}{o:List Nat}(ho:Ordr n o):∀(k:Nat) (x:Tb) (l:List Tb),IsT n x->(∀y∈l,IsT n y)->l.Nodup->Clo n o (rkT o x) l->o.length<k+rkT o x ->
  (belowT k o x l).Nodup/\(∀y,y∈belowT k o x l↔y∈l\/Sr o x y)/\∃m,belowT k o x l=l++m
 | 0,x,l,hx,_,hd,_,hk=>by
   have h0:topT o x=Option.none:=by
    cases h:topT o x with
    | none=>rfl
    | some v=>have:=rkT_lt h;omega
   exact⟨hd,λy=>⟨.inl,λh=>h.elim id λh=>absurd h (Sr.none h0)⟩,[],(jZb l).symm⟩
 | k+1,x,l,hx,hl,hd,hc,hk=>by
   unfold belowT;cases h:topT o x with
   | none=>exact⟨hd,λy=>⟨.inl,λh'=>h'.elim id λh'=>absurd h' (Sr.none h)⟩,[],(jZb l).symm⟩
   | some v =>
     simp only[];split
     . rename_i hm
       have hm:Zr x∈l:=by simpa using hm
       exact⟨hd,λy=>⟨.inl,λh'=>h'.elim id λh'=>hc _ hm (by rw[(topT_norm ho hx).2];exact jBb _) y ((Sr.norm ho hx).2 h')⟩,[],(jZb l).symm⟩
     . rename_i hm
       have hm:Zr x∉l:=by simpa using hm
       have c0:∀b,Clo n o (rkT o (Zu x v b)) (l++[Zr x]):=λb y hy hr z hz=>by
        have hlt:=rkT_cof ho hx h b;rcases jH.1 hy with hy|hy
        . exact jRa _ (hc y hy (by omega) z hz)
        . rw[jKb] at hy
          subst hy;rw[(topT_norm ho hx).2] at hr;omega
       have t0:∀y∈l++[Zr x],IsT n y:=λy hy=>by
        rcases jH.1 hy with hy|hy
        . exact hl y hy
        . rw[jKb] at hy;subst hy;exact hx.norm
       have d0:(l++[Zr x]).Nodup:=by
        rw[jY];exact⟨hd,by simp,λa ha b hb=>by rw[jKb] at hb;subst hb;exact λe=>hm (e ▸ ha)⟩
       obtain⟨d1,m1,⟨e1,f1⟩⟩:=belowT_ok ho k (Zu x v false) (l++[Zr x]) (hx.cof v false) t0 d0 (c0 false) (by have:=rkT_cof ho hx h false;omega);obtain⟨d2,m2,⟨e2,f2⟩⟩:=belowT_ok ho k (Zu x v true) _ (hx.cof v true) (λy hy=>(m1 y |>.1 hy).elim (t0 y) λhy=>(hy.lift ho (hx.cof v false)).1) d1 (λy hy hr z hz=>by
        rcases (m1 y).1 hy with hy|hy
        . exact (m1 z).2 (.inl (c0 true y hy hr z hz))
        . exact (m1 z).2 (.inr (hy.trans ho (hx.cof v false) hz))) (by have:=rkT_cof ho hx h true;omega)
       refine⟨d2,λy=>?_,_,by rw[f2,f1,jE,jE]⟩;rw[m2,m1,jH,jKb,Sr.inv h];constructor
       . rintro (((h|h)|h)|h)
         . exact .inl h
         . exact .inr (.inl h)
         . exact .inr (.inr (.inl h))
         . exact .inr (.inr (.inr h))
       . rintro (h|h|h|h)
         . exact .inl (.inl (.inl h))
         . exact .inl (.inl (.inr h))
         . exact .inl (.inr h)
         . exact .inr h
end G
namespace G
variable{B:Nat} {s:St}
theorem PermOk.get(h:PermOk s){v:Nat}(hv:v<s.vars.length):s.vars[lvf s v]?=some v:=by
 obtain⟨h1,h2⟩:=h.lv v hv;rw[yD,yA h1] at h2;rw[yA h1];exact jNa some h2
theorem PermOk.at(h:PermOk s){k:Nat}(hk:k<s.vars.length):s.vars[k]'hk<s.vars.length/\lvf s (s.vars[k]'hk)=k:=by
 have h1:=h.vl k hk;rw[yD,yA hk] at h1;exact h1
theorem PermOk.ordr(h:PermOk s):Ordr s.vars.length s.vars:=by
 refine⟨λv hv=>?_,?_⟩
 . obtain⟨k,hk,rfl⟩:=qA hv
   exact (h.at hk).1
 . rw[List.Nodup,qBa]
   intro i j hi hj hij he;have h1:=(h.at hi).2;have h2:=(h.at hj).2;rw[he] at h1;omega
theorem StOk.dep(h:StOk B s):∀(b e:Nat),rkf (lvf s) s.nd (e/2)<b->val s.nd e->Dep s.vars.length (den s.nd e)
 | b+1,e,hb,hv=>by
   cases hn:s.nd (e/2) with
   | none=>intro ρ ρ' _;rw[den,Ye hn,den,Ye hn]
   | some n =>
     intro ρ ρ' he;rw[Xy h.can.toAcyc hn,Xy h.can.toAcyc hn,he n.v (h.vars _ _ hn)];have hk:=h.can.toAcyc.kid hn (ρ' n.v);generalize (if ρ' n.v=true then n.hi else n.lo)=k at hk ⊢;by_cases h0:k/2=0
     . rw[Qp h.can.g0 h0,Qp h.can.g0 h0]
     . rw[StOk.dep h b k (by have:=hk.2 h0;omega) hk.1 ρ ρ' he]
theorem StOk.dep'(h:StOk B s){e:Nat}(hv:val s.nd e):Dep s.vars.length (den s.nd e):=h.dep _ e (kIb _) hv
def St.tb(s:St)(e:Nat):Tb:=Xw s.vars.length (den s.nd e)
theorem tb_length(s:St)(e:Nat):(s.tb e).length=2^s.vars.length:=Xu _ _
theorem isT_tb(s:St)(e:Nat):IsT s.vars.length (s.tb e):=tb_length s e
theorem StOk.tb_inj(h:StOk B s){e f:Nat}(he:val s.nd e)(hf:val s.nd f):s.tb e=s.tb f↔e=f :=
 ⟨λhh=>h.can.can e f he hf ((tabOf_inj (h.dep' he) (h.dep' hf)).1 hh),λhh=>by rw[hh]⟩
theorem StOk.indep_hangs(h:StOk B s){e v:Nat}(he:val s.nd e)(hv:v<s.vars.length):Zb (s.tb e) v=true↔¬Indep (den s.nd e) v:=hangs_tabOf (h.dep' he) hv
theorem StOk.low(h:StOk B s){e v:Nat}(he:val s.nd e)(hlt:∀m,s.nd (e/2)=some m->lvf s v<lvf s m.v):Indep (den s.nd e) v:=h.ord.low h.can.toAcyc he (λ_ _=>jC _) hlt
theorem edge_split(e:Nat):edge (e/2) (e%2==1)=e:=edge_of e
theorem StOk.top_tb(h:StOk B s){e:Nat}(he:val s.nd e):topT s.vars (s.tb e)=(s.nd (e/2)).map (·.v):=by
 cases hn:s.nd (e/2) with
 | none =>
   have h0:e/2=0:=he.elim id λh'=>by rw[hn] at h';cases h'
   show s.vars.find? _=none
   rw[kAa];intro v hv hh;exact (h.indep_hangs he (h.pm.ordr.lt v hv)).1 hh (indep_const h.can.g0 h0 v)
 | some n =>
   show s.vars.find? _=some n.v
   have hv:=h.vars _ _ hn;obtain⟨h1,h2⟩:=h.pm.lv n.v hv;rw[List.find?_eq_some_iff_getElem];refine⟨(h.indep_hangs he hv).2 (by have:=h.can.dep hn (e%2==1);rwa [edge_split] at this),lvf s n.v,h1,?_,λj hj=>?_⟩
   . have:=h.pm.get hv
     rw[yA h1] at this;injection this
   . obtain⟨h3,h4⟩:=h.pm.at (show j<s.vars.length by omega)
     have:Zb (s.tb e) (s.vars[j]'(by omega))=false:=by
      rw[Bool.eq_false_iff];intro hh;exact (h.indep_hangs he h3).1 hh (h.low he λm hm=>by rw[hn] at hm;injection hm with hm;subst hm;omega)
     rw[this];rfl
theorem StOk.cof_tb(h:StOk B s){e:Nat}{n:Nd}(hn:s.nd (e/2)=some n)(b:Bool):Zu (s.tb e) n.v b=s.tb (flipIf (if b then n.hi else n.lo) (e%2==1)):=by
 unfold St.tb;rw[cof_tabOf (h.vars _ _ hn)];congr 1
 funext ρ
 rw[Xy h.can.toAcyc hn,Qq,Ke];congr 1
 have:Indep (den s.nd (if b=true then n.hi else n.lo)) n.v:=by cases b;exact h.can.indl _ _ hn;exact h.can.indh _ _ hn
 exact this ρ b
theorem StOk.kid(h:StOk B s){e:Nat}{n:Nd}(hn:s.nd (e/2)=some n)(b:Bool):val s.nd (flipIf (if b then n.hi else n.lo) (e%2==1)):=val_flipIf.2 (h.can.toAcyc.kid hn b).1
theorem StOk.ones(h:StOk B s){ρ:Nat->Bool}(hρ:∀v,v<s.vars.length->ρ v=true):∀(b id:Nat),rkf (lvf s) s.nd id<b->val s.nd (2*id)->den s.nd (2*id) ρ=true
 | b+1,id,hb,hv=>by
   have e0:2*id/2=id:=by omega
   have e1:2*id%2=0:=by omega
   cases hn:s.nd id with
   | none =>
     have:s.nd (2*id/2)=none:=by rw[e0,hn]
     rw[den,Ye this,e1];rfl
   | some n =>
     rw[den_id h.can.toAcyc hn,hρ n.v (h.vars _ _ hn),jAb rfl];have hk:=h.can.toAcyc.kid hn true;rw[jAb rfl] at hk;have hev:=h.can.even _ _ hn;have eh:n.hi=2*(n.hi/2):=by omega
     by_cases h0:n.hi/2=0
     . rw[Qp h.can.g0 h0,hev];rfl
     . rw[eh]
       refine StOk.ones h hρ b (n.hi/2) (by have:=hk.2 h0;omega) ?_;rw[<- eh];exact hk.1
theorem StOk.last(h:StOk B s){e:Nat}(he:val s.nd e):lastT (s.tb e)=(e%2==0):=by
 unfold St.tb;rw[last_tabOf];have h1:val s.nd (2*(e/2)):=by unfold val at he ⊢;rwa [show 2*(e/2)/2=e/2 by omega]
 have h2:=h.ones (ρ:=(2^s.vars.length-1).testBit) (λv hv=>by simp[Nat.testBit_two_pow_sub_one,hv]) _ (e/2) (kIb _) h1;have h3:=Ka s.nd (e/2) (e%2==1) (2^s.vars.length-1).testBit;rw[edge_split,h2] at h3;rw[h3];rcases jKa e with hm|hm <;> rw[hm] <;> rfl
theorem tb_flip(s:St)(e:Nat):s.tb (flip e)=notT (s.tb e):=by
 unfold St.tb;rw[not_tabOf];congr 1
 funext ρ
 exact den_flip s.nd e ρ
theorem flip_even{e:Nat}(h:e%2=1):flip e=2*(e/2):=by unfold flip;rw[jAb h];omega
theorem StOk.norm_tb(h:StOk B s){e:Nat}(he:val s.nd e):Zr (s.tb e)=s.tb (2*(e/2)):=by
 unfold Zr;rw[h.last he];rcases jKa e with hm|hm <;> rw[hm]
 . rw[jAb (by decide),show 2*(e/2)=e by omega]
 . rw[jAa (by decide),<- tb_flip,flip_even hm]
inductive Rch (G:Gr):Nat->Nat->Prop
 | here {i:Nat} {n:Nd}:G i=some n->Rch G i i
 | lo {i j:Nat} {n:Nd}:G i=some n->Rch G (n.lo/2) j->Rch G i j
 | hi {i j:Nat} {n:Nd}:G i=some n->Rch G (n.hi/2) j->Rch G i j
theorem Rch.some{G:Gr}{i j:Nat}(h:Rch G i j):(∃n,G i=some n)/\∃n,G j=some n:=by
 induction h with
 | here h=>exact⟨⟨_,h⟩,_,h⟩
 | lo h _ ih=>exact⟨⟨_,h⟩,ih.2⟩
 | hi h _ ih=>exact⟨⟨_,h⟩,ih.2⟩
theorem Rch.trans{G:Gr}{i j k:Nat}(h:Rch G i j)(h2:Rch G j k):Rch G i k:=by
 induction h with
 | here h=>exact h2
 | lo h _ ih=>exact .lo h (ih h2)
 | hi h _ ih=>exact .hi h (ih h2)
theorem two_half(i:Nat):2*i/2=i:=by omega
theorem val2{G:Gr}{i:Nat}{n:Nd}(h:G i=some n):val G (2*i):=by unfold val;rw[two_half,h];exact .inr rfl
theorem StOk.rch_sr(h:StOk B s){i j:Nat}(hr:Rch s.nd i j):∀e,e/2=i->Sr s.vars (s.tb e) (s.tb (2*j)):=by
 induction hr with
 | @here i n hn =>
   intro e he;have hv:val s.nd e:=by unfold val;rw[he,hn];exact .inr rfl
   have:=Sr.here (o:=s.vars) (x:=s.tb e) ((h.top_tb hv).trans (by rw[he,hn];rfl))
   rwa [h.norm_tb hv,he] at this
 | @lo i j n hn _ ih =>
   intro e he;have hv:val s.nd e:=by unfold val;rw[he,hn];exact .inr rfl
   refine Sr.down false ((h.top_tb hv).trans (by rw[he,hn];rfl)) ?_;rw[h.cof_tb (by rw[he];exact hn)];exact ih _ (Qx _ _)
 | @hi i j n hn _ ih =>
   intro e he;have hv:val s.nd e:=by unfold val;rw[he,hn];exact .inr rfl
   refine Sr.down true ((h.top_tb hv).trans (by rw[he,hn];rfl)) ?_;rw[h.cof_tb (by rw[he];exact hn)];exact ih _ (Qx _ _)
theorem StOk.sr_rch(h:StOk B s){x y:Tb}(hr:Sr s.vars x y):∀e,val s.nd e->x=s.tb e->∃j,Rch s.nd (e/2) j/\y=s.tb (2*j):=by
 induction hr with
 | @here x v hv =>
   rintro e he rfl;rw[h.top_tb he] at hv;cases hn:s.nd (e/2) with
   | none=>rw[hn] at hv;cases hv
   | some n=>exact⟨_,.here hn,h.norm_tb he⟩
 | @down x y v b hv _ ih =>
   rintro e he rfl;rw[h.top_tb he] at hv;cases hn:s.nd (e/2) with
   | none=>rw[hn] at hv;cases hv
   | some n =>
     rw[hn] at hv;injection hv with hv
     subst hv;obtain⟨j,h1,h2⟩:=ih _ (h.kid hn b) (h.cof_tb hn b);rw[Qx] at h1;cases b
     . exact⟨j,.lo hn h1,h2⟩
     . exact⟨j,.hi hn h1,h2⟩
theorem StOk.sr_iff(h:StOk B s){e:Nat}(he:val s.nd e)(y:Tb):Sr s.vars (s.tb e) y↔∃j,Rch s.nd (e/2) j/\y=s.tb (2*j) :=
 ⟨λhr=>h.sr_rch hr e he rfl,λ⟨_,hr,hy⟩=>hy ▸ h.rch_sr hr e rfl⟩
theorem StOk.live_iff(h:StOk B s){j:Nat}{m:Nd}(hm:s.nd j=some m):0<Qv s j↔∃i,0<Qg s.nd i/\Rch s.nd i j:=by
 constructor
 . have:∀(b j:Nat) (m:Nd),s.nd j=some m->71-rkf (lvf s) s.nd j<b->0<Qv s j->∃i,0<Qg s.nd i/\Rch s.nd i j:=by
     intro b
     induction b with
     | zero=>intro j m _ h2;omega
     | succ b ih =>
       intro j m hm hb hc;have hcnt:=h.rc.cnt j (by rw[hm];rfl);by_cases hr:0<Qg s.nd j
       . exact⟨j,hr,.here hm⟩
       . have h0:=Xr s.nd j
         have hp:0<Zy s.nd (Qv s) s.pl.slots.length j:=by omega
         obtain⟨i,hi,hw⟩:=sumTo_pos hp;unfold inW at hw;cases hn:s.nd i with
         | none=>rw[hn] at hw;simp at hw
         | some n =>
           rw[hn] at hw;simp only[] at hw;split at hw
           . rename_i hci
             have hj0:j≠0:=λe=>by rw[e,h.can.g0] at hm;cases hm
             have hk:n.lo/2=j\/n.hi/2=j:=by
              unfold Zl at hw;by_cases h1:n.lo/2=j
              . exact .inl h1
              . by_cases h2:n.hi/2=j
                . exact .inr h2
                . rw[jAa h1,jAa h2] at hw;omega
             have hrk:rkf (lvf s) s.nd j<rkf (lvf s) s.nd i:=by
              rcases hk with hk|hk
              . have:=(h.can.lo i n hn).2 (by omega);rwa [hk] at this
              . have:=(h.can.hi i n hn).2 (by omega);rwa [hk] at this
             have h70:=rkf_le (lvf s) s.nd i;obtain⟨i',h1,h2⟩:=ih i n hn (by omega) hci;refine⟨i',h1,h2.trans ?_⟩;rcases hk with hk|hk
             . exact .lo hn (hk ▸ .here (by rw[hk];exact hm))
             . exact .hi hn (hk ▸ .here (by rw[hk];exact hm))
           . omega
   exact this _ j m hm (kIb _)
 . rintro⟨i,hi,hr⟩
   have:∀i j,Rch s.nd i j->0<Qv s i->0<Qv s j:=by
    intro i j hr
    induction hr with
    | here _=>exact id
    | lo hn hr ih=>exact λhc=>ih (h.rc.kid_live (Xr s.nd) hn hc (.inl rfl) (by obtain⟨⟨m,hm⟩,_⟩:=hr.some;rw[hm];rfl))
    | hi hn hr ih=>exact λhc=>ih (h.rc.kid_live (Xr s.nd) hn hc (.inr rfl) (by obtain⟨⟨m,hm⟩,_⟩:=hr.some;rw[hm];rfl))
   refine this i j hr ?_;obtain⟨⟨n,hn⟩,_⟩:=hr.some;have h1:=h.rc.cnt i (by rw[hn];rfl);have h2:=indeg_nonneg s.nd (Qv s) s.pl.slots.length i;omega
end G
namespace G
variable{B:Nat} {s:St}
theorem nodup_sub{α:Type}[DecidableEq α]{l m:List α}(h:l.Nodup)(hs:∀a∈l,a∈m):l.length<=m.length:=by
 induction l generalizing m with
 | nil=>exact jC _
 | cons a l ih =>
   rw[jMa] at h;have ha:=hs a qCb
   have:=ih (m:=m.erase a) h.2 λb hb=>(List.mem_erase_of_ne (λ(e:b=a)=>h.1 (e ▸ hb))).2 (hs b (kJa _ hb))
   rw[List.length_erase_of_mem ha] at this
   have:0<m.length:=kQ ha;rw[yB];omega
theorem nodup_same{α:Type}[DecidableEq α]{l m:List α}(h:l.Nodup)(k:m.Nodup)(hs:∀a,a∈l↔a∈m):l.length=m.length :=
 Nat.le_antisymm (nodup_sub h λa=>(hs a).1) (nodup_sub k λa=>(hs a).2)
theorem nodup_map_on{α β:Type}{f:α->β}{l:List α}(h:l.Nodup)(hf:∀a∈l,∀b∈l,f a=f b->a=b):(l.map f).Nodup:=by
 induction l with
 | nil=>simp
 | cons a l ih =>
   rw[jMa] at h;rw[jDb,jMa];refine⟨λhm=>?_,ih h.2 λx hx y hy=>hf x (kJa _ hx) y (kJa _ hy)⟩;obtain⟨b,hb,he⟩:=jF.1 hm
   have:=hf b (kJa _ hb) a qCb he;exact h.1 (this ▸ hb)
theorem StOk.tb2_inj(h:StOk B s){i j:Nat}{n m:Nd}(hi:s.nd i=some n)(hj:s.nd j=some m)(he:s.tb (2*i)=s.tb (2*j)):i=j:=by
 have:=(h.tb_inj (val2 hi) (val2 hj)).1 he;omega
def tbs(s:St)(l:List (Nat×Nd)):List Tb:=l.map λp=>s.tb (2*p.1)
theorem StOk.nodup_tbs(h:StOk B s){l:List (Nat×Nd)}(hl:∀p∈l,s.nd p.1=some p.2)(hd:(l.map (·.1)).Nodup):(tbs s l).Nodup:=by
 refine nodup_map_on (List.Pairwise.of_map (·.1) (λa b h (e:a=b)=>h (by rw[e])) hd) λp hp q hq he=>?_
 have h1:=h.tb2_inj (hl p hp) (hl q hq) he;have h2:=hl p hp;rw[h1,hl q hq] at h2;injection h2 with h2
 exact Prod.ext h1 h2.symm
theorem filter_len{α:Type}(p:α->Bool):∀l:List α,(l.filter p).length+(l.filter λx=>!p x).length=l.length
 | []=>rfl
 | a::l=>by
   have:=filter_len p l;rw[kLa,kLa];cases p a <;> simp <;> omega
theorem StOk.live_eq(h:StOk B s){L:List Tb}(hd:L.Nodup)(hm:∀y,y∈L↔∃i j,0<Qg s.nd i/\Rch s.nd i j/\y=s.tb (2*j)):L.length+s.dead=many s.pl.slots:=by
 have hdead:=dead_length h.pl (Qv s);rw[<- h.rc.dead] at hdead;have hsum:(s.nodes.filter λp=>Qv s p.1==0).length+(s.nodes.filter λp=>!(Qv s p.1==0)).length=s.nodes.length:=by
  exact filter_len (λp:Nat×Nd=>Qv s p.1==0) s.nodes
 rw[length_nodes h.pl] at hsum;have hlive:L.length=(tbs s (s.nodes.filter λp=>!(Qv s p.1==0))).length:=by
  refine nodup_same hd (h.nodup_tbs (λp hp=>mem_nodes.1 (jQ.1 hp).1) ((nodup_nodes s).sublist (kO.map _))) λy=>?_
  rw[hm];unfold tbs;rw[jF];constructor
  . rintro⟨i,j,hi,hr,rfl⟩
    obtain⟨_,m,hj⟩:=hr.some
    have:=(h.live_iff hj).2 ⟨i,hi,hr⟩;exact⟨(j,m),jQ.2 ⟨mem_nodes.2 hj,by simp;omega⟩,rfl⟩
  . rintro⟨⟨j,m⟩,hp,rfl⟩
    obtain⟨h1,h2⟩:=jQ.1 hp;have hj:=mem_nodes.1 h1;obtain⟨i,hi,hr⟩:=(h.live_iff hj).1 (by simp at h2;omega);exact⟨i,j,hi,hr,rfl⟩
 rw[tbs,jHb] at hlive;omega
structure Gro (Q:Tb->Prop) (s s':St):Prop where
 vars:s'.vars=s.vars
 lev:s'.lev=s.lev
 room:s'.pl.room=s.pl.room
 old:∀i n,s.nd i=some n->s'.nd i=some n
 dens:∀e,val s.nd e->den s'.nd e=den s.nd e
 new:∀i n,s'.nd i=some n->s.nd i=none->n.refs=0/\Q (s'.tb (2*i))
theorem Gro.refl(Q:Tb->Prop)(s:St):Gro Q s s:=⟨rfl,rfl,rfl,λ_ _=>id,λ_ _=>rfl,λi n h k=>by rw[h] at k;cases k⟩
theorem Gro.val{Q:Tb->Prop}{s s':St}(g:Gro Q s s'){e:Nat}(h:G.val s.nd e):G.val s'.nd e:=h.imp id λh=>by
 cases hn:s.nd (e/2) with
 | none=>rw[hn] at h;cases h
 | some n=>rw[g.old _ n hn];rfl
theorem Gro.tb{Q:Tb->Prop}{s s':St}(g:Gro Q s s'){e:Nat}(h:G.val s.nd e):s'.tb e=s.tb e:=by unfold St.tb;rw[g.vars,g.dens e h]
theorem Gro.trans{Q:Tb->Prop}{s s' s'':St}(g:Gro Q s s')(k:Gro Q s' s''):Gro Q s s'' where
 vars:=k.vars.trans g.vars
 lev:=k.lev.trans g.lev
 room:=k.room.trans g.room
 old:=λi n h=>k.old i n (g.old i n h)
 dens:=λe h=>(k.dens e (g.val h)).trans (g.dens e h)
 new:=λi n h h0=>by
  cases h1:s'.nd i with
  | none=>exact k.new i n h h1
  | some m =>
    have h2:=k.old i m h1;rw[h] at h2;injection h2 with h2
    subst h2;obtain⟨a,b⟩:=g.new i n h1 h0;exact⟨a,by rw[k.tb (val2 h1)];exact b⟩
theorem Gro.mono{Q Q':Tb->Prop}{s s':St}(g:Gro Q s s')(h:∀y,Q y->Q' y):Gro Q' s s' :=
 ⟨g.vars,g.lev,g.room,g.old,g.dens,λi n h1 h2=>⟨(g.new i n h1 h2).1,h _ (g.new i n h1 h2).2⟩⟩
theorem Gro.refs{Q:Tb->Prop}{s s':St}(g:Gro Q s s')(i:Nat):Qg s'.nd i=Qg s.nd i:=by
 unfold Qg;cases h:s.nd i with
 | some n=>rw[g.old i n h]
 | none =>
   cases h':s'.nd i with
   | none=>rfl
   | some n=>simp[(g.new i n h' h).1]
structure Fits (s:St) (L:List Tb):Prop where
 room:L.length<=s.pl.room
 all:∀j n,s.nd j=some n->s.tb (2*j)∈L
theorem belowT_len:∀(k:Nat) (o:List Nat) (x:Tb) (l:List Tb),(belowT k o x l).length+1<=l.length+2^k
 | 0,o,x,l=>by simp[belowT]
 | k+1,o,x,l=>by
   have h2:=qB k;unfold belowT;rw[Nat.pow_succ];split
   . omega
   . split
     . omega
     . rename_i v _ _
       have h1:=belowT_len k o (Zu x v true) (belowT k o (Zu x v false) (l++[Zr x]));have h3:=belowT_len k o (Zu x v false) (l++[Zr x]);rw[yG,List.length_singleton] at h3;omega
end G
namespace G
variable{B:Nat} {s s':St}
theorem StOk.drop_cases(h:StOk B s)(f:Int):(s.is f=false/\s.drop f=some (s,8))\/∃n:Nat,f=(n:Int)/\val s.nd n/\((Qg s.nd (n/2)=0/\s.drop f=some (s,if n/2=0 then 0 else 5))\/(0<Qg s.nd (n/2)/\∃s',s.drop f=some (s',0)/\StOk B s'/\Reref s s' (n/2) (-1))):=by
 cases hc:s.is f with
 | false=>refine .inl ⟨rfl,?_⟩;unfold St.drop;rw[hc];rfl
 | true =>
   obtain⟨a1,a2⟩:=is_iff.1 hc;obtain⟨h1,h2⟩:=h.drop a2;rw[show ((f.toNat:Nat):Int)=f by omega] at h1 h2;refine .inr ⟨f.toNat,by omega,a2,?_⟩;have h0:=Xr s.nd (f.toNat/2);by_cases hz:Qg s.nd (f.toNat/2)=0
   . exact .inl ⟨hz,h1 hz⟩
   . exact .inr ⟨by omega,h2 (by omega)⟩
theorem StOk.tab_lt(h:StOk B s)(v:Nat):∀e∈s.tab v,e.id<4194304:=λe he=>by
 by_cases hv:v<s.vars.length
 . obtain⟨_,n,hn,_⟩:=(h.tab v hv).sound e he
   have h1:=Pl.nd_lt (p:=s.pl) (id:=e.id) (by show (s.nd e.id).isSome=true;rw[hn];rfl);have h2:=h.pl.len;have h3:=h.pl.room1;omega
 . unfold St.tab at he
   rw[yD,jJ (by rw[h.pm.tabs];omega)] at he;cases he
theorem StOk.tab_len(h:StOk B s)(v:Nat):(s.tab v).length<=many s.pl.slots:=by
 by_cases hv:v<s.vars.length
 . have h1:=(h.tab v hv).nodup
   have:=nodup_sub (m:=s.nodes.map (·.1)) h1 λa ha=>by
    obtain⟨e,he,rfl⟩:=jF.1 ha;obtain⟨_,n,hn,_⟩:=(h.tab v hv).sound e he;exact jF.2 ⟨(e.id,n),mem_nodes.2 hn,rfl⟩
   rw[jHb,jHb,length_nodes h.pl] at this;exact this
 . unfold St.tab
   rw[yD,jJ (by rw[h.pm.tabs];omega)];exact jC _
end G
namespace G
variable{B:Nat} {s s':St}
theorem StOk.val_lt(h:StOk B s){e:Nat}(hv:val s.nd e):e<4194304:=by
 rcases hv with h0|h1
 . omega
 . have h2:=Pl.nd_lt (p:=s.pl) (id:=e/2) h1
   have h3:=h.pl.len;have h4:=h.pl.room1;omega
end G
end Go.Proofs.YtidamcdklgfogaaGreat
