import Derived.Test.YtdhkkkhnjooioaaGreatZbf
set_option linter.unusedSimpArgs false
set_option linter.unusedVariables false
namespace Go.Proofs.YtdhkkkhnjooioaaGreat
open Go.RowKit
def RowsR (I:PH) (v:Value) (l:List G.Tb):Prop:=∃ us:List Value,us.length=l.length∧(∃ A c,v=.slice A l.length c∧(0<l.length→∃ X,A=some ⟨X,0,none⟩∧Cells I X 0 us))∧∀ (i:Nat) t u,l[i]?=some t→us[i]?=some u→BoolR I u t
theorem RowsR.le {I J:PH} {v:Value} {l:List G.Tb} (h:RowsR I v l) (hJ:I.le J):RowsR J v l:=by
 obtain ⟨us,h1,⟨A,c,h2,h3⟩,h4⟩:=h
 refine ⟨us,h1,⟨A,c,h2,fun h0=>?_⟩,fun i t u a b=>(h4 i t u a b).le hJ⟩
 obtain ⟨X,e,hc⟩:=h3 h0
 exact ⟨X,e,hc.le hJ⟩
theorem RowsR.nil (I:PH) (A:Option Addr) (c:Nat):RowsR I (.slice A 0 c) []:=⟨[],rfl,⟨A,c,rfl,fun h=>absurd h (by decide)⟩,fun i t u h=>by simp at h⟩
theorem RowsR.get {I:PH} {v:Value} {l:List G.Tb} (h:RowsR I v l):(∃ A c,v=.slice A l.length c)∧∀ (i:Nat) t,l[i]?=some t→∃ X c u,v=.slice (some ⟨X,0,none⟩) l.length c∧I.at X i=some u∧BoolR I u t:=by
 obtain ⟨us,h1,⟨A,c,rfl,h3⟩,h4⟩:=h
 refine ⟨⟨A,c,rfl⟩,fun i t hi=>?_⟩
 have hlt:=(List.getElem?_eq_some_iff.1 hi).1
 obtain ⟨X,rfl,hc⟩:=h3 (by omega)
 have hu:=List.getElem?_eq_getElem (show i<us.length by omega)
 have:=hc i _ hu
 rw [Nat.zero_add] at this
 exact ⟨X,c,_,rfl,this,h4 i t _ hi hu⟩
theorem OwnP.rowsR {m J:PH} {v:Value} {us:List Value} {l:List G.Tb} {e:TypeId} {n:Nat} (h:OwnP m e 1 v n us) (hn:n=l.length) (hJ:m.le J) (hb:∀ (i:Nat) t u,l[i]?=some t→us[i]?=some u→BoolR J u t):RowsR J v l:=by
 subst hn
 have hl:us.length=l.length:=by have:=h.1;omega
 obtain ⟨A,c,rfl,_⟩:=h.shape
 refine ⟨us,hl,⟨A,c,rfl,fun h0=>?_⟩,hb⟩
 obtain ⟨X,c',e',_⟩:=h.ptr h0
 injection e' with e'
 subst e'
 have hf:us.flatMap (fun u=>[u])=us:=by induction us with|nil=>rfl|cons a l ih=>simp
 refine ⟨X,rfl,fun j u hj=>?_⟩
 have:=(flat_cells (f:=fun u:Value=>[u]) (l:=us) (fun _=>rfl) (by rw [hf];exact h) hj).le hJ 0 u rfl
 rw [Nat.mul_one,Nat.add_zero] at this
 rw [Nat.zero_add]
 exact this
theorem BoolR.one {I:PH} {u:Value} {t:List Bool} (h:BoolR I u t):u.oneCell'=true:=by obtain ⟨⟨A,c,rfl⟩,_⟩:=h;rfl
set_option maxRecDepth 100000 in
set_option maxHeartbeats 4000000 in
theorem rnorm_any {E w:World} {I:PH} {ms:List PH} {x:Value} {l:List Bool} (hx:BoolR I x l) (h0:0<l.length) (hb:l.length≤1048576) (hS:Sat E I ms w) :
 Calls Tryz.prog 62 #[x] w fun e w'=>∃ u J,e=.returned (.tuple #[u,.bool (!G.lastT l)])∧I.le J∧BoolR J u (G.normT l)∧Sat E J ms w':=by
 have HX:=Lib.hid hx
 obtain ⟨X,c,rfl,hat⟩:=hx.2 h0
 have hl:l[l.length - 1]?=some (G.lastT l):=by unfold G.lastT;rw [List.getD_eq_getElem?_getD,List.getElem?_eq_getElem (by omega)];rfl
 obtain ⟨n,hn⟩:∃ n,l.length=n+1:=⟨l.length - 1,by omega⟩
 have ix:I.at X n=some (.bool (G.lastT l)):=hat _ _ (by rw [← hl,hn];rfl)
 have HN:=Lib.hid (fun (w':World) (h9:Sat E I ms w')=>rnot_any HX.out hb h9)
 clear hat hl hx
 rw [hn] at HX HN ⊢
 have hnb:n<1048576:=by omega
 clear hn h0 hb
 cases hlast:G.lastT l with
 | true =>
   rw [hlast] at ix
   have hq:G.normT l=l:=by unfold G.normT;rw [if_pos hlast]
   rw [hq]
   clear hlast hq
   go_enter Tryz.func62,Tryz.ntmps62
   go_wp2_with (first|((with_reducible refine atList ?_);first|((with_reducible refine isLoad ?_);( ((refine' ldI1 (v:=_) hS rfl rfl ?ha rfl ?hb ?_);(case ha=>exact ty_agg4);(case hb=>assumption)));(try simp only [Act.put,zE,zF,zG]))))
   refine bodyPost_ret (results_tmp2 rfl _ _ _) rfl ?_
   exact ⟨_,I,rfl,PH.le.refl _,HX.out,hS⟩
 | false =>
   rw [hlast] at ix
   have hq:G.normT l=G.notT l:=by unfold G.normT;rw [if_neg (by rw [hlast];decide)]
   rw [hq]
   clear hlast hq
   go_enter Tryz.func62,Tryz.ntmps62
   go_wp2_with (first|(go_at_call 32;(with_reducible refine Calls.mono (HN.out _ hS) ?_);clear hS;rintro e w ⟨u,J,rfl,hJ,hu,hS⟩;have HJ:=Lib.hid hJ;have HU:=Lib.hid hu;clear hJ hu)|((with_reducible refine atList ?_);first|((with_reducible refine isLoad ?_);( ((refine' ldI1 (v:=_) hS rfl rfl ?ha rfl ?hb ?_);(case ha=>exact ty_agg4);(case hb=>assumption)));(try simp only [Act.put,zE,zF,zG]))))
   refine bodyPost_ret (results_tmp2 rfl _ _ _) rfl ?_
   exact ⟨_,J,rfl,HJ.out,HU.out,hS⟩
def idxI (l:List G.Tb) (t:G.Tb):Int:=if t ∈ l then (l.idxOf t:Int) else -1
theorem idx_first:∀ {l:List G.Tb} {t:G.Tb} {i:Nat},(∀ j,j<i→l[j]?≠some t)→l[i]?=some t→l.idxOf t=i
 | [],t,i,_,h=>by simp at h
 | y::l,t,i,hp,h=>by
   rw [List.idxOf_cons]
   cases i with
   | zero =>
     simp only [zB,Option.some.injEq] at h
     rw [h];simp
   | succ i =>
     rw [zA] at h
     have h0:¬ y=t:=fun e=>hp 0 (by omega) (by rw [e];rfl)
     have:(y == t)=false:=by simpa using h0
     rw [this]
     simp only [cond_false]
     rw [idx_first (fun j hj=>by have:=hp (j+1) (by omega);rwa [zA] at this) h]
theorem idxI_at {l:List G.Tb} {t:G.Tb} {i:Nat} (hp:∀ j,j<i→l[j]?≠some t) (h:l[i]?=some t):idxI l t=i:=by unfold idxI;rw [if_pos (List.mem_of_getElem? h),idx_first hp h]
theorem idxI_no {l:List G.Tb} {t:G.Tb} (h:¬ t ∈ l):idxI l t = -1:=by unfold idxI;rw [if_neg h]
theorem idxI_iff (l:List G.Tb) (t:G.Tb):0≤idxI l t↔t ∈ l:=by
 unfold idxI
 split
 · exact ⟨fun _=>by assumption,fun _=>by omega⟩
 · exact ⟨fun h=>by omega,fun h=>absurd h (by assumption)⟩
set_option maxRecDepth 100000 in
set_option maxHeartbeats 4000000 in
theorem rin_idx {E w:World} {I:PH} {ms:List PH} {v x:Value} {l:List G.Tb} {t:G.Tb} (hl:RowsR I v l) (hx:BoolR I x t) (hb:l.length≤1048576) (hy:∀ y ∈ l,y.length≤4611686018427387904) (hS:Sat E I ms w) :
 Calls Tryz.prog 63 #[v,x] w fun e w'=>e=.returned (.int .i64 (idxI l t))∧Sat E I ms w':=by
 obtain ⟨⟨A,c,rfl⟩,hat⟩:=hl.get
 clear hl
 have hld:∀ i,i<l.length→∃ X u y,l[i]?=some y∧A=some ⟨X,0,none⟩∧I.at X i=some u∧(∀ w',Sat E I ms w'→Calls Tryz.prog 17 #[u,x] w' fun e w''=>e=.returned (.bool (decide (y=t)))∧Sat E I ms w''):=fun i hi=>by
  have h:=List.getElem?_eq_getElem hi
  obtain ⟨X,c',u,h1,h2,h3⟩:=hat i _ h
  injection h1 with h1
  exact ⟨X,u,l[i],h,h1,h2,fun w' h9=>bsame_any h3 hx (hy _ (List.getElem_mem hi)) h9⟩
 have hin:∀ i:Nat,(∀ j,j<i→l[j]?≠some t)→l[i]?=some t→idxI l t=i:=fun i hp h=>idxI_at hp h
 have hout:(∀ j,j<l.length→l[j]?≠some t)→idxI l t = -1:=fun h=>idxI_no fun hm=>by
  obtain ⟨j,hj,he⟩:=List.mem_iff_getElem.1 hm
  exact h j hj (by rw [List.getElem?_eq_getElem hj,he])
 have Hld:=Lib.hid hld
 have Hin:=Lib.hid hin
 have Hout:=Lib.hid hout
 clear hld hin hout hat hy
 generalize hn:l.length=n at *
 have HNn:=Lib.hid hn
 clear hn
 go_enter Tryz.func63,Tryz.ntmps63
 go_wp2_with fail
 go_loopw [5] (fun v5 wr=>∃ i:Nat,i≤n∧v5=.int .i64 (i:Int)∧(∀ j,j<i→l[j]?≠some t)∧Sat E I ms wr) (fun v5 _=>(n - intOf v5).toNat)
 case atStart=>exact ⟨0,Nat.zero_le _,rfl,fun j hj=>by omega,hS⟩
 case round =>
  clear hS
  obtain ⟨i,hin,rfl,hp,hS⟩:=hrel
  have Hp:=Lib.hid hp
  clear hp
  by_cases hlt:i<n
  · obtain ⟨X,u,y,hyi,rfl,iX,hsame⟩:=Hld.out i hlt
    have HS:=Lib.hid hsame
    have Hyi:=Lib.hid hyi
    clear hsame hyi
    have ii:(i:Int)<(n:Int):=by omega
    by_cases hyt:y=t
    · have hd:decide (y=t)=true:=decide_eq_true hyt
      rw [hd] at HS
      clear hd
      have Hyt:=Lib.hid hyt
      clear hyt
      go_wp2_with (first|(go_at_call 17;(with_reducible refine Calls.mono (HS.out _ hS) ?_);clear hS;rintro e w ⟨rfl,hS⟩)|((with_reducible refine atList ?_);first|((with_reducible refine isLoad ?_);( ((refine' ldI1 (v:=_) hS rfl rfl ?ha rfl ?hb ?_);(case ha=>exact ty_agg35);(case hb=>assumption)));(try simp only [Act.put,zE,zF,zG]))))
      go_ret
      have hq:=Hin.out i Hp.out (by rw [← Hyt.out];exact Hyi.out)
      exact ⟨by rw [hq];rfl,hS⟩
    · have hd:decide (y=t)=false:=decide_eq_false hyt
      rw [hd] at HS
      clear hd
      have Hyt:=Lib.hid hyt
      clear hyt
      have hs:∀ j,j<i+1→l[j]?≠some t:=fun j hj=>by
       by_cases hji:j=i
       · subst hji;rw [Hyi.out];intro h;injection h with h;exact Hyt.out h
       · exact Hp.out j (by omega)
      have Hs:=Lib.hid hs
      clear hs
      go_wp2_with (first|(go_at_call 17;(with_reducible refine Calls.mono (HS.out _ hS) ?_);clear hS;rintro e w ⟨rfl,hS⟩)|((with_reducible refine atList ?_);first|((with_reducible refine isLoad ?_);( ((refine' ldI1 (v:=_) hS rfl rfl ?ha rfl ?hb ?_);(case ha=>exact ty_agg35);(case hb=>assumption)));(try simp only [Act.put,zE,zF,zG]))))
      exact ⟨⟨i+1,by omega,by go_num,Hs.out,hS⟩,by simp [intOf];omega⟩
  · have hie:i=n:=by omega
    subst hie
    have hr:=Hout.out (fun j hj=>Hp.out j hj)
    have Hr:=Lib.hid hr
    clear hr
    go_wp2_with fail
    go_ret
    exact ⟨by rw [Hr.out];rfl,hS⟩
theorem rin_any {E w:World} {I:PH} {ms:List PH} {v x:Value} {l:List G.Tb} {t:G.Tb} (hl:RowsR I v l) (hx:BoolR I x t) (hb:l.length≤1048576) (hy:∀ y ∈ l,y.length≤4611686018427387904) (hS:Sat E I ms w) :
 Calls Tryz.prog 63 #[v,x] w fun e w'=>∃ i:Int,e=.returned (.int .i64 i)∧(0≤i↔t ∈ l)∧Sat E I ms w':=by
 refine (rin_idx hl hx hb hy hS).mono ?_
 rintro e w' ⟨rfl,h⟩
 exact ⟨_,rfl,idxI_iff l t,h⟩
end Go.Proofs.YtdhkkkhnjooioaaGreat
namespace Go.Proofs.YtdhkkkhnjooioaaGreat
open Go.RowKit
theorem rows_info:(Tryz.prog.info? 35).map (fun i=>(i.zero,i.size,i.bytes))=some (some (.slice none 0 0),1,24):=by kernel_rfl
theorem belowT_is {n:Nat} {os:List Nat}:∀ (k:Nat) (x:G.Tb) (l:List G.Tb),G.IsT n x→(∀ y ∈ l,G.IsT n y)→∀ y ∈ G.belowT k os x l,G.IsT n y
 | 0,x,l,_,hl=>hl
 | k+1,x,l,hx,hl=>by
   unfold G.belowT
   cases G.topT os x with
   | none=>exact hl
   | some v =>
     show ∀ y ∈ (if l.contains (G.normT x) then l else _),_
     split
     · exact hl
     · have hc:∀ b,G.IsT n (G.cofT x v b):=fun b=>by show (G.cofT x v b).length=2 ^ n;rw [G.cofT_length];exact hx
       refine belowT_is k _ _ (hc true) (belowT_is k _ _ (hc false) fun y hy=>?_)
       rcases List.mem_append.1 hy with hy|hy
       · exact hl y hy
       · rw [List.mem_singleton.1 hy]
         show (G.normT x).length=2 ^ n
         unfold G.normT
         split
         · exact hx
         · rw [G.notT_length];exact hx
set_option maxRecDepth 100000 in
set_option maxHeartbeats 8000000 in
theorem rbelow_any {n:Nat} {os:List Nat} (ho:G.Ordr n os) (hos:∀ v ∈ os,v<n) (hol:os.length≤64) (hn:n≤12):∀ (k:Nat) {E w:World} {I:PH} {ms:List PH} {o u v:Value} {x:G.Tb} {l:List G.Tb},NumR I o os→BoolR I u x→RowsR I v l→G.IsT n x→(∀ y ∈ l,G.IsT n y)→os.length<k+G.rkT os x→l.length+2 ^ k≤100000→Sat E I ms w →
 Calls Tryz.prog 70 #[o,u,v] w fun e w'=>∃ r J,e=.returned r∧I.le J∧RowsR J r (G.belowT k os x l)∧Sat E J ms w'
 | 0,E,w,I,ms,o,u,v,x,l,h1,h2,h3,h4,h5,h6,h7,hS=>by
   have:G.rkT os x≤os.length:=List.findIdx_le_length
   omega
 | k+1,E,w,I,ms,o,u,v,x,l,h1,h2,h3,h4,h5,h6,h7,hS=>by
   have ih:=@rbelow_any n os ho hos hol hn k
   have hpow:2 ^ n≤4096:=Nat.le_trans (Nat.pow_le_pow_right (show (2:Nat) > 0 by decide) hn) (by decide)
   have hk2:2 ^ (k+1)=2 ^ k+2 ^ k:=by rw [Nat.pow_succ];omega
   have hk1:1≤2 ^ k:=Nat.one_le_two_pow
   have hlx:x.length=2 ^ n:=h4
   have hlb:l.length≤100000:=by omega
   have HTop:=Lib.hid (fun (w':World) (h9:Sat E I ms w')=>rtop_any h1 h2 h4 hos hol hn h9)
   cases ht:G.topT os x with
   | none =>
     have hB:G.belowT (k+1) os x l=l:=by unfold G.belowT;rw [ht]
     rw [hB]
     rw [ht] at HTop
     have H3:=Lib.hid h3
     obtain ⟨A,c,rfl⟩:=h3.get.1
     clear hB ih ho hos h1 h2 h3 h4 h5 h6 h7 ht hpow hk2 hk1 hlx
     generalize l.length=ll at *
     go_enter Tryz.func70,Tryz.ntmps70
     go_wp2_with (first|(go_at_call 24;(with_reducible refine Calls.mono (HTop.out _ hS) ?_);clear hS;rintro e w ⟨rfl,hS⟩))
     go_ret
     exact ⟨_,I,rfl,PH.le.refl _,H3.out,hS⟩
   | some tv =>
     rw [ht] at HTop
     have htv:tv<n:=hos tv (G.topT_some ht).1
     have hti:(0:Int)≤(tv:Int):=by omega
     have HNo:=Lib.hid (fun (w':World) (h9:Sat E I ms w')=>rnorm_any h2 (by rw [hlx];exact Nat.two_pow_pos n) (by omega) h9)
     have HIn:=Lib.hid (fun (J:PH) (hJ:I.le J) (y:Value) (t:G.Tb) (hy:BoolR J y t) (w':World) (h9:Sat E J ms w')=>rin_any (h3.le hJ) hy (by omega) (fun z hz=>by have:z.length=2 ^ n:=h5 z hz;omega) h9)
     have HCof:=Lib.hid (fun (b:Bool) (J:PH) (hJ:I.le J) (ns:List PH) (w':World) (h9:Sat E J ns w')=>rcof_any (b:=b) (h2.le hJ) hlx htv hn h9)
     have hcn:∀ b,G.IsT n (G.cofT x tv b):=fun b=>by show (G.cofT x tv b).length=2 ^ n;rw [G.cofT_length];exact hlx
     have hrk:∀ b,os.length<k+G.rkT os (G.cofT x tv b):=fun b=>by have:=G.rkT_cof ho h4 ht b;omega
     have hnt:G.IsT n (G.normT x):=by
      show (G.normT x).length=2 ^ n
      unfold G.normT
      split
      · exact hlx
      · rw [G.notT_length];exact hlx
     have H3:=Lib.hid h3
     obtain ⟨us,hul,⟨A,c,rfl,hcs⟩,hbs⟩:=h3
     have HC1:=Lib.hid (fun (J:PH) (hJ:I.le J)=>(fun h0=>by obtain ⟨X,e,hc⟩:=hcs h0;exact ⟨X,0,e,hc.le hJ⟩:0<l.length→∃ X off,A=some ⟨X,off,none⟩∧Cells J X off us))
     have HL:=Lib.hid (show us.length=l.length * 1 by omega)
     have H1:=Lib.hid (show ∀ u ∈ us,u.oneCell'=true from fun u hu=>by
      obtain ⟨i,hi,rfl⟩:=List.mem_iff_getElem.1 hu
      exact (hbs i _ _ (List.getElem?_eq_getElem (show i<l.length by omega)) (List.getElem?_eq_getElem hi)).one)
     have Hbs:=Lib.hid hbs
     have Hul:=Lib.hid hul
     by_cases hm:G.normT x ∈ l
     case pos =>
      have hB:G.belowT (k+1) os x l=l:=by unfold G.belowT;rw [ht];simp [hm]
      rw [hB]
      have HM:=Lib.hid hm
      clear hB hm ih ho hos h1 h2 h4 h5 h6 h7 ht hpow hk2 hk1 hlx hcs hbs hul hcn hrk hnt htv
      go_enter Tryz.func70,Tryz.ntmps70
      go_wp2_with (first|(go_at_call 24;(with_reducible refine Calls.mono (HTop.out _ hS) ?_);clear hS;rintro e w ⟨rfl,hS⟩)|(go_at_call 62;(with_reducible refine Calls.mono (HNo.out _ hS) ?_);clear hS;rintro e w ⟨un,J1,rfl,hJ1,hun,hS⟩;have HJ1:=Lib.hid hJ1;have HU:=Lib.hid hun;obtain ⟨⟨An,cn,rfl⟩,_⟩:=hun;clear hJ1))
      refine (HIn.out _ HJ1.out _ _ HU.out _ hS).mono ?_
      clear hS
      rintro e w ⟨i,rfl,hi,hS⟩
      have hi0:(0:Int)≤i:=hi.2 HM.out
      clear hi
      go_wp2_with fail
      go_ret
      exact ⟨_,J1,rfl,HJ1.out,H3.out.le HJ1.out,hS⟩
     case neg =>
      have hB:G.belowT (k+1) os x l=G.belowT k os (G.cofT x tv true) (G.belowT k os (G.cofT x tv false) (l ++ [G.normT x])):=by rw [G.belowT,ht];simp [hm]
      rw [hB]
      have HM:=Lib.hid hm
      have hl0:∀ y ∈ l ++ [G.normT x],G.IsT n y:=fun y hy=>by
       rcases List.mem_append.1 hy with hy|hy
       · exact h5 y hy
       · rw [List.mem_singleton.1 hy];exact hnt
      have hz0:(l ++ [G.normT x]).length+2 ^ k≤100000:=by rw [List.length_append,List.length_singleton];omega
      have hl1:=belowT_is k (G.cofT x tv false) _ (hcn false) hl0 (os:=os)
      have hz1:(G.belowT k os (G.cofT x tv false) (l ++ [G.normT x])).length+2 ^ k≤100000:=by
       have:=G.belowT_len k os (G.cofT x tv false) (l ++ [G.normT x])
       rw [List.length_append,List.length_singleton] at this
       omega
      have IH1:=Lib.hid (fun (J:PH) (hJ:I.le J) (ns:List PH) (w':World) (y v':Value) (hy:BoolR J y (G.cofT x tv false)) (hv:RowsR J v' (l ++ [G.normT x])) (h9:Sat E J ns w')=>ih (h1.le hJ) hy hv (hcn false) hl0 (hrk false) hz0 h9)
      have IH2:=Lib.hid (fun (J:PH) (hJ:I.le J) (ns:List PH) (w':World) (y v':Value) (hy:BoolR J y (G.cofT x tv true)) (hv:RowsR J v' (G.belowT k os (G.cofT x tv false) (l ++ [G.normT x]))) (h9:Sat E J ns w')=>ih (h1.le hJ) hy hv (hcn true) hl1 (hrk true) hz1 h9)
      clear hB hm ih ho hos h1 h2 h4 h5 h6 h7 ht hpow hk2 hk1 hlx hcs hbs hul hcn hrk hnt htv hl0 hz0 hl1 hz1
      go_enter Tryz.func70,Tryz.ntmps70
      go_wp2_with (first|(go_at_call 24;(with_reducible refine Calls.mono (HTop.out _ hS) ?_);clear hS;rintro e w ⟨rfl,hS⟩)|(go_at_call 62;(with_reducible refine Calls.mono (HNo.out _ hS) ?_);clear hS;rintro e w ⟨un,J1,rfl,hJ1,hun,hS⟩;have HJ1:=Lib.hid hJ1;have HU:=Lib.hid hun;obtain ⟨⟨An,cn,rfl⟩,_⟩:=hun;clear hJ1))
      refine (HIn.out _ HJ1.out _ _ HU.out _ hS).mono ?_
      clear hS
      rintro e w ⟨i,rfl,hi,hS⟩
      have hi0:¬ (0:Int)≤i:=fun h=>HM.out (hi.1 h)
      have hi1:i<0:=by omega
      clear hi
      go_wp2_with (first|((with_reducible refine isBuildSlice ?_);(refine' bsl hS ?hr ?_);(case hr=>(intro w0;go_simp;rfl));clear hS;intro XS w hS;(try simp only [zF,zG,zE,Act.eval,zD,zC,zA,zB,zJ,Value.cells] at hS);(try simp only [Act.put,zE,zF,zG]))|((with_reducible refine isAppend ?_);(refine' apS (p:=_) (m:=_) (v:=_) (n:=_) (xs:=_) (news:=us) 0 (.inl (PH.le.refl _)) hS rfl rfl rfl Tryz.underlying29 rows_info rfl (by decide) rfl ?hown rfl HL.out (HC1.out _ HJ1.out) H1.out ?h63 ?hby ?_);(case hown=>exact OwnP.lit _ _ 1 0 #[] (by decide) rfl);(case h63=>(unfold maxLen;omega));(case hby=>omega);clear hS;intro v1 m1 w1 hO hS;(try simp only [zG] at hS);(try simp only [Act.put,zE,zF,zG]))|(at_builtin;(refine' apP (p:=_) (m:=_) (v:=_) (n:=_) (xs:=_) (news:=_) 1 (.inr (List.Mem.head _)) hS rfl rfl rfl Tryz.underlying29 rows_info rfl (by decide) rfl ?hown rfl ?hl ?hcl ?h1 ?h63 ?hby ?_);(case hown=>assumption);(case hcl=>exact Cells.one _ _ _ _);(case hl=>rfl);(case h1=>rfl);(case h63=>go_light;unfold maxLen;omega);(case hby=>go_light;omega);clear hS hO;intro v1 m1 w hO hS;(try simp only [zF,zG] at hS);(try simp only [Act.put,zE,zF,zG])))
      replace hS:=hS.drop
      obtain ⟨J2,a2,e2,hS2,_⟩:=hS.ice
      have hrow:RowsR J2 v1 (l ++ [G.normT x]):=hO.rowsR (by simp) e2 fun i t y hi hy=>by
       rw [List.nil_append] at hy
       by_cases hlt:i<l.length
       · rw [List.getElem?_append_left hlt] at hi
         rw [List.getElem?_append_left (by rw [Hul.out];exact hlt)] at hy
         exact (Hbs.out i t y hi hy).le (PH.le.trans HJ1.out a2)
       · have hle:i<l.length+1:=by
          have:=(List.getElem?_eq_some_iff.1 hi).1
          rw [List.length_append,List.length_singleton] at this
          exact this
         obtain rfl:i=l.length:=by omega
         rw [List.getElem?_append_right (Nat.le_refl _),Nat.sub_self] at hi
         rw [List.getElem?_append_right (by rw [Hul.out];exact Nat.le_refl _),Hul.out,Nat.sub_self] at hy
         injection hi with hi
         injection hy with hy
         subst hi
         subst hy
         exact HU.out.le a2
      have HR:=Lib.hid hrow
      have HA2:=Lib.hid (PH.le.trans HJ1.out a2)
      clear hS hO a2 e2 hrow
      refine (HCof.out false _ HA2.out _ _ hS2).mono ?_
      clear hS2
      rintro e w ⟨uc,J3,rfl,hJ3,huc,hS⟩
      have HJ3:=Lib.hid hJ3
      have HUc:=Lib.hid huc
      clear hJ3 huc
      go_wp2_with fail
      refine (IH1.out _ (PH.le.trans HA2.out HJ3.out) _ _ _ _ HUc.out (HR.out.le HJ3.out) hS).mono ?_
      clear hS
      rintro e w ⟨r1,J4,rfl,hJ4,hr1,hS⟩
      have HJ4:=Lib.hid (PH.le.trans (PH.le.trans HA2.out HJ3.out) hJ4)
      have HR1:=Lib.hid hr1
      clear hJ4 hr1
      go_wp2_with fail
      refine (HCof.out true _ HJ4.out _ _ hS).mono ?_
      clear hS
      rintro e w ⟨ud,J5,rfl,hJ5,hud,hS⟩
      have HJ5:=Lib.hid hJ5
      have HUd:=Lib.hid hud
      clear hJ5 hud
      go_wp2_with fail
      refine (IH2.out _ (PH.le.trans HJ4.out HJ5.out) _ _ _ _ HUd.out (HR1.out.le HJ5.out) hS).mono ?_
      clear hS
      rintro e w ⟨r2,J6,rfl,hJ6,hr2,hS⟩
      have HJ6:=Lib.hid (PH.le.trans (PH.le.trans HJ4.out HJ5.out) hJ6)
      have HR2:=Lib.hid hr2
      clear hJ6 hr2
      go_wp2_with fail
      go_ret
      exact ⟨_,J6,rfl,HJ6.out,HR2.out,hS⟩
end Go.Proofs.YtdhkkkhnjooioaaGreat
namespace Go.Proofs.YtdhkkkhnjooioaaGreat
open Go.RowKit
theorem flat_nv (l:List Nat):l.flatMap ivC=l.map fun n=>nv n:=by rw [List.flatMap_def];unfold ivC;induction l with|nil=>rfl|cons a l ih=>simp_all
set_option maxRecDepth 100000 in
set_option maxHeartbeats 8000000 in
theorem rswapped_any {E w:World} {I:PH} {ms:List PH} {o:Value} {os:List Nat} {k a b:Nat} (ho:NumR I o os) (hk:k+1<os.length) (ha:os[k]?=some a) (hb:os[k+1]?=some b) (hol:os.length≤64) (hS:Sat E I ms w) :
 Calls Tryz.prog 30 #[o,nv k] w fun e w'=>∃ u J,e=.returned (.tuple #[u,.bool true])∧I.le J∧NumR J u ((os.set k b).set (k+1) a)∧Sat E J ms w':=by
 have hlen:(os.flatMap ivC).length=os.length * 1:=flat_length ivC_len _
 have hone:∀ u ∈ os.flatMap ivC,u.oneCell'=true:=fun u hu=>by
  obtain ⟨a,_,ha⟩:=List.mem_flatMap.1 hu
  simp only [ivC,List.mem_singleton] at ha
  subst ha;rfl
 obtain ⟨⟨A,c,rfl⟩,hV⟩:=ho
 have hcs:0<os.length→∃ X off,A=some ⟨X,off,none⟩∧Cells I X off (os.flatMap ivC):=fun hl=>by
  obtain ⟨X,c',e1,e2⟩:=hV hl
  injection e1 with e1
  refine ⟨X,0,e1,fun j v hj=>?_⟩
  rw [Nat.zero_add]
  rw [flat_nv,List.getElem?_map] at hj
  cases hx:os[j]? with
  | none=>rw [hx] at hj;cases hj
  | some x=>rw [hx] at hj;cases hj;exact e2 j x hx
 generalize hk1:k+1=k1 at *
 have hkk:(k:Int)+1=(k1:Int):=by omega
 have hk0:k<os.length:=by omega
 have h1:∀ (m':PH) (V cV:Nat),OwnP m' 3 1 (.slice (some ⟨V,0,none⟩) os.length cV) os.length (spl (os.flatMap ivC) k (Value.cells (nv b)).toList)→OwnP m' 3 1 (.slice (some ⟨V,0,none⟩) os.length cV) os.length ((os.set k b).flatMap ivC):=fun m' V cV h=>own_set hk0 h
 have h2:∀ (m':PH) (V cV:Nat),OwnP m' 3 1 (.slice (some ⟨V,0,none⟩) os.length cV) os.length (spl ((os.set k b).flatMap ivC) k1 (Value.cells (nv a)).toList)→OwnP m' 3 1 (.slice (some ⟨V,0,none⟩) os.length cV) os.length (((os.set k b).set k1 a).flatMap ivC):=fun m' V cV h=>own_set (by simpa using hk) h
 have hcA:∀ (m':PH) (V cV:Nat),OwnP m' 3 1 (.slice (some ⟨V,0,none⟩) os.length cV) os.length (os.flatMap ivC)→m'.at V k=some (nv a)∧m'.at V k1=some (nv b):=fun m' V cV h=>by
  have c1:=flat_cells ivC_len h ha
  have c2:=flat_cells ivC_len h hb
  rw [Nat.mul_one] at c1 c2
  exact ⟨c1.at 0 rfl,c2.at 0 rfl⟩
 have hfin:∀ (m':PH) (u:Value),OwnP m' 3 1 u os.length (((os.set k b).set k1 a).flatMap ivC)→NumR m' u ((os.set k b).set k1 a):=fun m' u h=>OwnP.num (e:=3) (by rw [List.length_set,List.length_set];exact h)
 have H2:=Lib.hid h1
 have H3:=Lib.hid h2
 have HA:=Lib.hid hcA
 have HF:=Lib.hid hfin
 have HC:=Lib.hid hcs
 have HL:=Lib.hid hlen
 have H1:=Lib.hid hone
 have ki:(k:Int)<(os.length:Int):=by omega
 have k1i:(k1:Int)<(os.length:Int):=by omega
 clear h1 h2 hcA hfin hcs hlen hone hV ha hb hk1
 generalize hxs:os.flatMap ivC=xs at *
 generalize hvn:os.length=n at *
 have HX:=Lib.hid hxs
 have HN:=Lib.hid hvn
 clear hxs hvn
 have kj:(k:Int)<(n:Int) - 1:=by omega
 go_enter Tryz.func30,Tryz.ntmps30
 go_wp2_with (first|((with_reducible refine isBuildSlice ?_);(refine' bsl hS ?hr ?_);(case hr=>(intro w0;go_simp;rfl));clear hS;intro XS w hS;(try simp only [zF,zG,zE,Act.eval,zD,zC,zA,zB,zJ,Value.cells] at hS);(try simp only [Act.put,zE,zF,zG]))|((with_reducible refine isAppend ?_);(refine' apS (p:=_) (m:=_) (v:=_) (n:=_) (xs:=_) (news:=xs) 0 (.inl (PH.le.refl _)) hS rfl rfl rfl Tryz.underlying28 int_info rfl (by decide) rfl ?hown rfl HL.out HC.out H1.out ?h63 ?hby ?_);(case hown=>exact OwnP.lit _ _ 1 0 #[] (by decide) rfl);(case h63=>(unfold maxLen;omega));(case hby=>omega);clear hS;intro v1 m1 w1 hO hS;(try simp only [zG] at hS);(try simp only [Act.put,zE,zF,zG]))|((with_reducible refine atList ?_);((with_reducible refine isGuard ?_);first|((with_reducible refine guarded_yes ?hw ?_);case hw=>(simp only [Region.wanted,yielded,zC,zA,zB,zK,beq_self_eq_true];done))|((refine' guarded_cases (b:=_) ?hy ?_ ?_);(case hy=>(simp only [yielded,zC,zA,zB,zK];exact rfl));all_goals (intro hb;(try simp only [Bool.not_false] at hb);(try simp only [hb]);(try simp only [Act.put,zE,zF,zG]);first|((have hf:False:=by (simp at hb;omega));cases hf)|skip)))))
 have hV:OwnP m1 3 1 v1 n xs:=by simpa using hO
 obtain ⟨V,cV,rfl,_⟩:=hV.ptr (by omega)
 have hAB:=HA.out _ _ _ hV
 have HV:=Lib.hid hV
 have HAB:=Lib.hid hAB
 clear hO hV hAB
 refine region_c1 [[],[],[],[],[3],[],[],[6],[5,6,7],[5,6,7,8],[],[],[10,11],[10,11,12],[0,1,5,6,7,8,9,10,11,12,13],[0,1,5,6,7,8,9,10,11,12,13,14],[0,1,2,3,4,5,6,7,8,9,10,11,12,13,14,15],[0,1,2,3,4,5,6,7,8,9,10,11,12,13,14,15,16]] E I _
  [fun v _=>v=.slice (some ⟨V,0,none⟩) n cV,fun v _=>v=nv k,fun v _=>v=.slice (some ⟨V,0,none⟩) n cV,fun v _=>v=nv k,fun v _=>v=nv k1,fun v _=>v=.slice (some ⟨V,0,none⟩) n cV,fun v _=>v=nv k,fun v _=>v=nv k1,fun v _=>v=.pointer (some ⟨V,k1,none⟩),fun v _=>v=nv b,fun v _=>v=.slice (some ⟨V,0,none⟩) n cV,fun v _=>v=nv k,fun v _=>v=.pointer (some ⟨V,k,none⟩),fun v _=>v=nv a,fun v _=>v=.pointer (some ⟨V,k,none⟩),fun _ _=>True,fun v _=>v=.pointer (some ⟨V,k1,none⟩),fun _ _=>True] [15,17]
  (set2G _ 0 0 (fun m'=>OwnP m' 3 1 (.slice (some ⟨V,0,none⟩) n cV) n ((os.set k b).flatMap ivC)) (fun m'=>OwnP m' 3 1 (.slice (some ⟨V,0,none⟩) n cV) n (((os.set k b).set k1 a).flatMap ivC))) (by kernel_rfl) (by kernel_rfl) (by decide) hS rfl ?last (fun _ _ _ _ _ _ h=>h) (fun _ _ _ _ _ _ h=>h) ?plain ?step ?fin
 case last=>repeat (first|exact Lasting.nil|refine Lasting.cons (fun _ _ _ _ h=>h) ?_)
 case plain =>
  repeat' (first|exact trivial|apply And.intro)
  all_goals first|exact .inl rfl|skip
  all_goals
   refine .inr ?_
   intro s vals J bs w hstop hg hJ hS hG
   first
   | (obtain rfl:s=0:=Nat.le_zero.1 hstop
      have hG:bs=_:=hG
      subst hG
      simp only [zH,zI,Given,Facts] at hg;simp only [textL,actL,dstAt,opAt,zH,zI,zA,zB,zK,if_true,Act.put,zE,zF,zG,hg];refine ⟨?_⟩;refine wpStep_of (fun K hK=>?_);have HK:=Lib.hid hK;clear hK;rw [if_pos (by rfl)]
      (with_reducible refine atLoad ?_)
      first
      | (refine wp_ld1 (hS.mle (k:=0) rfl) rfl ty_agg3 rfl HAB.out.1 ?_)
      | (refine wp_ld1 (hS.mle (k:=0) rfl) rfl ty_agg3 rfl HAB.out.2 ?_)
      refine HK.out _ _ ⟨rfl,J,PH.le.refl _,hS,?_⟩
      clear HK
      simp only [Facts]
      simp only [outOf,zH,zI,Act.put,zE,zF,zG,zD,zC,zA,zB,zJ])
   | (clear hG
      simp only [zH,zI,Given,Facts] at hg;simp only [textL,actL,dstAt,opAt,zH,zI,zA,zB,zK,if_true,Act.put,zE,zF,zG,hg];refine ⟨?_⟩;refine wpStep_of (fun K hK=>?_);have HK:=Lib.hid hK;clear hK;rw [if_pos (by rfl)]
      go_wp2_with fail
      refine HK.out _ _ ⟨rfl,J,PH.le.refl _,hS,?_⟩
      clear HK
      simp only [Facts]
      simp only [outOf,zH,zI,zD,zC,zA,zB,zJ])
 case step =>
  refine ⟨⟨trivial,?_⟩,?_⟩
  · intro vals J bs w hg hJ hS hG
    have hG:bs=_:=hG
    subst hG
    simp only [zH,zI,Given,Facts] at hg;simp only [textL,actL,dstAt,opAt,zH,zI,zA,zB,zK,if_true,Act.put,zE,zF,zG,hg];refine ⟨?_⟩;refine wpStep_of (fun K hK=>?_);have HK:=Lib.hid hK;clear hK;rw [if_pos (by rfl)]
    refine wp_stO (i:=k) hS 0 rfl rfl rfl rfl HV.out (Nat.mul_one k).symm hk0 ty_sz3 rfl (iv_one b) fun m' w hO' hS=>?_
    exact HK.out _ _ ⟨rfl,J,_,PH.le.refl _,hS,trivial,m',H2.out _ _ _ hO',rfl⟩
  · intro vals J bs w hg hJ hS hG
    refine Veil.out ?_
    obtain ⟨mm,hmm,hG⟩:=hG
    subst hG
    refine ⟨?_⟩
    simp only [zH,zI,Given,Facts] at hg;simp only [textL,actL,dstAt,opAt,zH,zI,zA,zB,zK,if_true,Act.put,zE,zF,zG,hg];refine ⟨?_⟩;refine wpStep_of (fun K hK=>?_);have HK:=Lib.hid hK;clear hK;rw [if_pos (by rfl)]
    refine wp_stO (i:=k1) hS 0 rfl rfl rfl rfl hmm (Nat.mul_one k1).symm hk ty_sz3 rfl (iv_one a) fun m' w hO' hS=>?_
    exact HK.out _ _ ⟨rfl,J,_,PH.le.refl _,hS,trivial,mm,m',hmm,H3.out _ _ _ hO',rfl⟩
 case fin =>
  intro vals J9 bs w hJ hg hS hG
  obtain ⟨_,mV',_,hV',hns⟩:=hG
  subst hns
  have hS:=hS.less hJ
  simp only [zG] at hS
  obtain ⟨J2,a2,e2,hS2,_⟩:=hS.ice
  have HV':=Lib.hid ((HF.out _ _ hV').le e2)
  have HA2:=Lib.hid a2
  clear hV' hJ hS a2 e2
  simp only [List.length_cons,List.length_nil,Nat.reduceAdd,Below_,Facts,zH,zI,true_and,and_true] at hg;simp only [List.length_cons,List.length_nil,Nat.reduceAdd,textL,actL,dstAt,zA,zB,zK,if_true,Act.put,zE,zF,zG,hg];refine ⟨?_⟩
  clear hg
  go_wp2_with fail
  refine bodyPost_ret (results_tmp2 rfl _ _ _) rfl ?_
  exact ⟨_,J2,rfl,HA2.out,HV'.out,hS2⟩
end Go.Proofs.YtdhkkkhnjooioaaGreat
