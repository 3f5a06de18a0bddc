import Derived.Test.YtidamcdklgfogaaGreatUbc
set_option linter.unusedVariables false
set_option linter.unusedSimpArgs false
set_option maxRecDepth 100000
set_option maxHeartbeats 8000000
namespace Go.Proofs.YtidamcdklgfogaaGreat
section
open Go.RowKit
theorem OwnP.iget{m:PH}{e:TypeId}{v:Value}{n:Nat}{l:List Nat}(h:OwnP m e 1 v n (l.map nv))(hn:l.length=n):∃A c,v=.slice A n c/\∀(i:Nat) x,l[i]?=some x->∃X,A=some ⟨X,0,none⟩/\m.at X i=some (nv x):=by
 obtain⟨A,c,rfl,_⟩:=h.shape;refine⟨A,c,rfl,λi x hx=>?_⟩;obtain⟨X,hX⟩:=h.cells (by rw[<- hn];have:=(yE.1 hx).1;omega);refine⟨X,hX.1,?_⟩
 have:=hX.2 i (nv x) (by rw[jO,hx];rfl)
 rwa [jLb] at this
theorem OwnP.one1{m:PH}{e:TypeId}{v:Value}{a:Nat}(h:OwnP m e 1 v 1 ([a].map nv)):∃Z c,v=.slice (some ⟨Z,0,none⟩) 1 c/\m.at Z 0=some (nv a):=by
 obtain⟨A,c,rfl,hg⟩:=OwnP.iget (l:=[a]) h rfl;obtain⟨Z,rfl,hz⟩:=hg 0 a rfl;exact⟨Z,c,rfl,hz⟩
theorem OwnP.one2{m:PH}{e:TypeId}{v:Value}{a b:Nat}(h:OwnP m e 1 v 2 ([a,b].map nv)):∃Z c,v=.slice (some ⟨Z,0,none⟩) 2 c/\m.at Z 0=some (nv a)/\m.at Z 1=some (nv b):=by
 obtain⟨A,c,rfl,hg⟩:=OwnP.iget (l:=[a,b]) h rfl;obtain⟨Z,rfl,hz⟩:=hg 0 a rfl;obtain⟨Z',e1,h1⟩:=hg 1 b rfl;cases e1;exact⟨Z,c,rfl,hz,h1⟩
theorem OwnP.one3{m:PH}{e:TypeId}{v:Value}{a b k:Nat}(h:OwnP m e 1 v 3 ([a,b,k].map nv)):∃Z c,v=.slice (some ⟨Z,0,none⟩) 3 c/\m.at Z 0=some (nv a)/\m.at Z 1=some (nv b)/\m.at Z 2=some (nv k):=by
 obtain⟨A,c,rfl,hg⟩:=OwnP.iget (l:=[a,b,k]) h rfl;obtain⟨Z,rfl,hz⟩:=hg 0 a rfl;obtain⟨Z',e1,h1⟩:=hg 1 b rfl;cases e1;obtain⟨Z',e1,h2⟩:=hg 2 k rfl;cases e1;exact⟨Z,c,rfl,hz,h1,h2⟩
theorem wp_bslG{P:Program}{a:Act}{w E:World}{K:Act->World->Prop}{Q:Exit->Act->World->Prop}{I:PH}{ms:List PH}{dst:Option Tmp}{type:TypeId}{pos:String}{after:Array Edge}{g:Option (Nat×Bool)}{T:TypeId}{n:Nat}{parts:Array (Nat×Operand)}
  (hS:Sat E I ms w){cs:Array Value}{e:TypeId}(hr:∀w:World,(Instr.buildSlice T n (parts.map λ(i,x)=>(i,a.eval x))).run P w=.ok (.slice (some ⟨w.heap.size,0,none⟩) n n) (w.alloc (.cells cs e)))
  (h:∀X J w',I.le J->J X=some (.cells cs e (0,0))->Sat E J ms w'->K (a.put dst (.slice (some ⟨X,0,none⟩) n n)) w'):Oper.wp P ⟨dst,.buildSlice T n parts,type,pos,after,g⟩ a w K Q :=
 wp_bsl hS hr λX w' hS'=>by
  obtain⟨J,hJ,hm,hS2,_⟩:=hS'.ice;exact h X J w' hJ (hm X _ (PH.one_self _ _)) hS2
theorem IntR.lit3{J:PH}{X:Nat}{e:TypeId}{a b c:Int}(h:J X=some (.cells #[.int .i64 a,.int .i64 b,.int .i64 c] e (0,0))):IntR J (.slice (some ⟨X,0,none⟩) 3 3) [a,b,c]:=by
 refine⟨⟨_,_,rfl⟩,λ_=>⟨X,3,rfl,λi x hx=>?_⟩⟩;unfold PH.at
 rw[h]
 match i,hx with
 | 0,hx=>cases hx;rfl
 | 1,hx=>cases hx;rfl
 | 2,hx=>cases hx;rfl
 | i+3,hx=>simp at hx
section
variable{S:G.Sem} {n H R:Nat} {E w:World} {I p:PH} {ms:List PH} {D:Nat} {m m':G.Mg} {r:Nat}
theorem Sat.up2{a b c:PH}(h:Sat E I (a::b::c::ms) w):Sat E I (c::a::b::ms) w:=h.pick 2 rfl
theorem buildL(hS1:∀φ ψ χ,S 1 φ ψ χ=G.iteF φ ψ χ)(hR9:R<=900000){b:Nat}(hB:BuildC S n H R b)(hs:G.Sd S n m){op var:Int}{A:Option Addr}{cap:Nat}{kids:List Tr}(hop:op=4\/op=8\/op=9\/op=10)(hin:In I (Tr.mk op var A cap kids))(hsz:∀k∈kids,k.size<=b)(hlen:kids.length<=100000)
  (hok:G.ExOk n (Tr.mk op var A cap kids).ex)(f:G.Fit n H m (G.Ex.szs (Tr.exs kids)+4) (3*G.Ex.szs (Tr.exs kids)+3))(hR:m.s.pl.room=R)(hm:G.buildM (Tr.mk op var A cap kids).ex m=some (m',r,true))(hA:MgAt D m p)(hS:Sat E I (p::ms) w) :
  Calls Tryz.prog 42 #[vPt D,(Tr.mk op var A cap kids).val] w λe w'=>e=.returned (.tuple #[nv r,.bool true])/\∃p',MgAt D m' p'/\Sat E I (p'::ms) w':=by
 have Hin:=yH hin.at_;have hksO:∀k∈kids,G.ExOk n k.ex:=by
  rw[Tr.ex] at hok;cases hok with
  | mk _ h2=>exact λk hk=>h2 _ (by rw[Tr.exs_map];exact jWa hk)
 rw[Tr.ex] at hm hok;obtain⟨mz,l,hst,hll,hend⟩:=G.build_list hS1 hok hop hs f hR hm;have HSt0:=yH hst;have HEnd:=yH hend;have HB:=yH (λ(w:World) (q:PH) (ms:List PH) (k:Tr) (mi ma:G.Mg) (g:Nat) (hk:k∈kids) (hki:In I k) (h1:G.Sd S n mi) (h2:G.Fit n H mi (k.ex.sz+3) (3*k.ex.sz)) (h3:mi.s.pl.room=R) (h4:G.buildM k.ex mi=some (ma,g,true)) (hA:MgAt D mi q) (hS:Sat E I (q::ms) w)=>hB k E I ms w D mi ma q g (hsz k hk) hki (hksO k hk) h1 h2 h3 h4 hA hS);have HStep:=yH (λ(i:Nat) (k:Tr) (mi:G.Mg) (acc:List Nat) (hk:kids[i]?=some k) (q:G.ListSt S n H R (Tr.exs (kids.drop i)) mi acc mz l)=>by
  rw[Tr.exs_drop hk] at q;exact (And.intro q (q.step hS1)))
 have HHyp:=yH (And.intro hS1 hR9);have e1:(op==1)=false:=by rw[jGb];omega
 have e2:(op==2)=false:=by rw[jGb];omega
 have e3:(op==3)=false:=by rw[jGb];omega
 have e5:(op==5)=false:=by rw[jGb];omega
 have e6:(op==6)=false:=by rw[jGb];omega
 have e7:(op==7)=false:=by rw[jGb];omega
 have HA0:=yH hA;have HLL:=yH hll;clear hm hst hend hs hA f hR hok hksO hsz hin hB hR9 hS1 hll hop;unfold Tr.val;simp only[Tr.op,Tr.var,Tr.A,Tr.kids,Tr.cap] at *
 go_enter Tryz.func42,Tryz.ntmps42;go_wp2_with (first|(refine aL ?_)|(refine aX ?_;clear hS;intro X w hS)|(refine aY ?_;clear hS;intro XS w hS))
 have HS1:=yH hS.up2;have HO1:=yH (OwnP.lit XS 3 1 0 #[] (jC _) rfl);clear hS;go_loopw [15,106] (λv15 v106 wr=>∃(i:Nat) (mi:G.Mg) (acc:List Nat) (pi mr:PH),i<=kids.length/\v106=.int .i64 i/\acc.length=i/\OwnP mr 3 1 v15 acc.length (acc.map nv)/\G.ListSt S n H R (Tr.exs (kids.drop i)) mi acc mz l/\MgAt D mi pi/\Sat E I (pi::mr::PH.one X (.cells #[.int .i64 op,.int .i64 var,.slice A kids.length cap] 87)::ms) wr) (λ_ v106 _=>(kids.length-intOf v106).toNat)
 case atStart=>exact⟨0,m,[],p,_,jC _,rfl,rfl,HO1.out,HSt0.out,HA0.out,HS1.out⟩
 case round =>
  clear HS1 HO1 HA0 HSt0;obtain⟨i,mi,acc,pi,mr,hle,rfl,hacc,hO,hst,hA,hS⟩:=hrel;by_cases hlt:i<kids.length
  . obtain⟨Y,off,rfl,hc⟩:=Hin.out (by omega)
    obtain⟨kd,hget⟩:∃kd,kids[i]?=some kd:=⟨_,yA hlt⟩;obtain⟨hcell,hkin⟩:=hc i kd hget;obtain⟨hq,hfe,ma,g,hbu,hst2⟩:=HStep.out i kd mi acc hget hst;have HBk:=yH (λ(w:World) (ms:List PH) (hS:Sat E I (pi::ms) w)=>HB.out w pi ms kd mi ma g (jCb hget) hkin hq.ok hfe hq.room hbu hA hS);have HSt2:=yH hst2;obtain⟨A3,c3,rfl,_⟩:=OwnP.shape hO;unfold Tr.cells at hcell;unfold Tr.val at HBk;have k0:(0:Int)<=(i:Int):=by omega
    have k1:(i:Int)<(kids.length:Int):=by omega
    have k2:decide ((i:Int)<(kids.length:Int))=true:=by rw[jPb];omega
    have HAcc:=yH hacc;have k3:acc.length<=100000:=by omega
    clear hget hc hkin hst hq hfe hbu hst2 hA hacc;generalize kd.op=ko at *
    generalize kd.var=kv at *
    generalize kd.A=kA at *
    generalize kd.kids.length=kl at *
    generalize kd.cap=kc at *
    go_wp2_with (first
     | (go_at_call 42;(with_reducible refine bD (HBk.out _ _ hS.sw) ?_);clear hS;intro w pa HAa hS)
     | (at_builtin;(refine' apP (p:=_) (m:=_) (v:=_) (n:=_) (xs:=_) (news:=_) 3 (.inr (List.Mem.head _)) hS rfl rfl rfl Tryz.underlying23 Ko rfl (by decide) rfl ?hown rfl ?hl ?hcl ?h1 ?h63 ?hby ?_);(case hown=>assumption);(case hcl=>exact Cells.one _ _ _ _);(case hl=>rfl);(case h1=>rfl);(case h63=>go_light;unfold maxLen;omega);(case hby=>go_light;omega);clear hS hO;intro v1 m1 w hO hS;(try simp only[zF,zG] at hS);(try simp only[Act.put,zE,zF,zG]))
     | ((with_reducible refine Qu ?_);first|((with_reducible refine Xi 17 ?_);(refine' al (z:=_) hS rfl rfl ?ha ?_);(case ha=>exact ty_z87);clear hS;intro Y17 w hS;(try simp only[Value.cells] at hS);(try simp only[Act.put,zE,zF,zG]))|((with_reducible refine Qe ?_);(first|(refine ldN 0 hS rfl rfl ?ha rfl rfl ?hb ?_;(case ha=>exact Xl);(case hb=>exact Xd))|((refine' ldIN (vs:=_) hS rfl rfl ?ha rfl ?hc ?hb ?_);(case ha=>exact Xl);(case hc=>assumption);(case hb=>exact Xd)));(try simp only[Act.put,zE,zF,zG]))|((with_reducible refine Xa ?_);( (refine stN 0 hS rfl rfl rfl rfl rfl ?ha rfl rfl ?_;(case ha=>exact Xd)) );clear hS;intro w hS;(try simp only[zG,Act.eval,zD,zC,zA,zB,zJ,Value.cells] at hS);(try simp only[Act.put]))|((with_reducible refine Kz ?_);(refine' bsl hS ?hr ?_);(case hr=>(intro w0;go_simp;rfl));clear hS;intro XS w hS;(try simp only[Act.put,zE,zF,zG]))))
    exact⟨⟨i+1,ma,acc++[g],pa,m1,hlt,by go_num,by rw[yG,HAcc.out];rfl,by rw[yG,jGa];exact hO,HSt2.out,HAa.out,hS.drop.sw.drop⟩,by simp[intOf];omega⟩
  . obtain rfl:i=kids.length:=by omega
    have k2:decide ((kids.length:Int)<(kids.length:Int))=false:=by rw[jD];omega
    rw[List.drop_length,Tr.exs] at hst;obtain⟨rfl,rfl⟩:=hst.done;have HA2:=yH hA;clear hst hA HStep HB e1 e2 e3 e5 e6 e7;rcases HEnd.out with⟨rfl,hq⟩|⟨rfl,hq⟩|⟨h89,hq⟩
    . obtain⟨a,m2,rfl,q1,q2,q3,q4⟩:=hq.ex
      obtain⟨Z,c3,rfl,hz⟩:=OwnP.one1 hO;have HN:=yH (λ(w:World) (ms:List PH) (hS:Sat E I (pi::ms) w)=>wnot_any q2 q1 HA2.out hS);have HD:Hid (∀(w:World) (q:PH) (XS:Nat) (ms:List PH),MgAt D m2 q->Sat E I (PH.one XS (.cells #[nv a] 3)::q::ms) w->Calls Tryz.prog 65 #[vPt D,.slice (some ⟨XS,0,none⟩) 1 1] w λe w'=>e=.returned (.int .i64 0)/\∃p',MgAt D m' p'/\Sat E I (p'::ms) w'):=yH λw q XS ms hA hS=>wdropL_any (l:=[(a:Int)]) q3 ⟨by simp,by simp⟩ q4 rfl hA hS
      clear hq q1 q2 q3 q4 HEnd HHyp hO hacc HLL;go_wp2_with (first
       | (go_at_call 88;(with_reducible refine bD (HN.out _ _ hS) ?_);clear hS;intro w p2 HA3 hS)
       | (go_at_call 65;(with_reducible refine bD (HD.out _ _ _ _ HA3.out hS) ?_);clear hS;intro w p3 HA4 hS)
       | ((with_reducible refine Qe ?_);(refine' Xx (v:=_) (.inr (List.Mem.tail _ (List.Mem.head _))) hS rfl rfl ?ha rfl ?hc ?_);(case ha=>exact Qh);(case hc=>assumption);refine aM ?_)
       | (refine aG ?_)|(refine aL ?_)|(refine aY ?_;clear hS;intro XS w hS))
      go_ret2;exact⟨rfl,p3,HA4.out,hS.sw.drop.sw.drop⟩
    . obtain⟨a,b3,k,m2,rfl,⟨φ,f1⟩,⟨ψ,f2⟩,⟨χ,f3⟩,q1,q2,q3,q4,q5,q6⟩:=hq.ex
      obtain⟨Z,c3,rfl,hz0,hz1,hz2⟩:=OwnP.one3 hO;have HI:Hid (∀(w:World) (J:PH) (ms:List PH),Sat E J (pi::ms) w->Calls Tryz.prog 89 #[vPt D,nv a,nv b3,nv k] w λe w'=>e=.returned (.tuple #[nv r,.int .i64 0])/\∃p',MgAt D m2 p'/\Sat E J (p'::ms) w'):=yH λw J ms hS=>wite_any HHyp.out.1 q4 q1 (by rw[q2];exact HHyp.out.2) f1 f2 f3 q3 HA2.out hS
      have HD:Hid (∀(w:World) (J q:PH) (ms:List PH) (vl:Value),IntR J vl [(a:Int),(b3:Int),(k:Int)]->MgAt D m2 q->Sat E J (q::ms) w->Calls Tryz.prog 65 #[vPt D,vl] w λe w'=>e=.returned (.int .i64 0)/\∃p',MgAt D m' p'/\Sat E J (p'::ms) w'):=yH λw J q ms vl hv hA hS=>wdrop_any q5 (by simp) hv q6 hA hS
      clear hq q1 q2 q3 q4 q5 q6 f1 f2 f3 HEnd HHyp hO hacc HLL;go_wp2_with (first|(refine aG ?_)|(refine aL ?_))
      obtain⟨I1,l1,lm,hS1,bM⟩:=hS.sw.ice;have z0:I1.at Z 0=some (nv a):=PH.at_le lm hz0;have z1:I1.at Z 1=some (nv b3):=PH.at_le lm hz1;have z2:I1.at Z 2=some (nv k):=PH.at_le lm hz2;clear lm l1 hS;refine Qf [[],[],[1],[1,2],[],[4],[4,5],[],[7],[7,8],[0,1,2,3,4,5,6,7,8,9],[0,1,2,3,4,5,6,7,8,9,10],[0,1,2,3,4,5,6,7,8,9,10,11],[0,1,2,3,4,5,6,7,8,9,10,11],[0,1,2,3,4,5,6,7,8,9,10,11,12],[0,1,2,3,4,5,6,7,8,9,10,11,12,13,14]] E I1 _
       [λv _=>v=vPt D,λv _=>v=.slice (some ⟨Z,0,none⟩) 3 c3,λv _=>v=.pointer (some ⟨Z,0,none⟩),λv _=>v=nv a,λv _=>v=.slice (some ⟨Z,0,none⟩) 3 c3,λv _=>v=.pointer (some ⟨Z,1,none⟩),λv _=>v=nv b3,λv _=>v=.slice (some ⟨Z,0,none⟩) 3 c3,λv _=>v=.pointer (some ⟨Z,2,none⟩),λv _=>v=nv k,λv _=>v=.tuple #[nv r,.int .i64 0],λv _=>v=.tuple #[nv r,.int .i64 0],λv _=>v=nv r,λv _=>v=.int .i64 0,λv _=>v=nv r,λv _=>v=.int .i64 0] [10]
       (set1G _ 0 (λq'=>MgAt D m2 q')) (by kernel_rfl) (by kernel_rfl) (by decide) hS1 rfl ?last (λ_ _ _ _ _ _ h=>h) (λ_ _ _ _ _ _ h=>h) ?plain ?step ?fin
      case last=>exact bL
      case plain=>(repeat' (first|exact trivial|apply And.intro)) <;> first|exact .inl rfl|(refine .inr ?_;intro s vals J bs w hstop hg hJ hS hG;clear hG;refine bS ?_;intro K HK;(first|(refine bJ ?_)|(go_wp2_with (fail)));exact bO)
      case step =>
       refine⟨trivial,?_⟩;intro vals J bs w hg hJ hS hG;have hG:bs=_:=hG;subst hG;refine bS ?_;intro K HK;go_wp2_with (go_at_call 89;(with_reducible refine bD (HI.out _ _ _ hS) ?_);clear hS;intro w p2 HA3 hS)
       exact HK.out _ _ ⟨rfl,J,_,PH.le.refl _,hS,rfl,p2,HA3.out,rfl⟩
      case fin =>
       intro vals J9 bs w hJ hg hS hG;obtain⟨p2,hA3,hns⟩:=hG;subst hns;have hS:=hS.less hJ;simp only[zG] at hS;have hS:=bM _ _ hS;have HA3:=yH hA3;clear hA3 hJ bM z0 z1 z2 hS1;refine bH ?_;clear hg;go_wp2_with fail
       obtain⟨I2,l2,lm,hS2,bM⟩:=hS.ice;have z0:I2.at Z 0=some (nv a):=PH.at_le lm hz0;have z1:I2.at Z 1=some (nv b3):=PH.at_le lm hz1;have z2:I2.at Z 2=some (nv k):=PH.at_le lm hz2;clear lm l2 hS;refine Qf [[],[],[1],[1,2],[1,2,3],[1,2,3],[1,2,3,5],[1,2,3,5,6],[1,2,3],[1,2,3,8],[1,2,3,8,9],[1,2,3],[1,2,3,11],[1,2,3,11,12],[1,2,3,5,6,7,8,9,10,11,12,13],[1,2,3,4,5,6,7,8,9,10,11,12,13,14],[1,2,3,4,5,6,7,8,9,10,11,12,13,14,15],[1,2,3,4,5,6,7,8,9,10,11,12,13,14,15,16],[0,1,2,3,4,5,6,7,8,9,10,11,12,13,14,15],[0,1,2,3,4,5,6,7,8,9,10,11,12,13,14,15,16,17,18]] E I2 _
        [λv _=>v=nv r,λv _=>v=.int .i64 0,λv _=>v=.bool true,λv _=>v=.bool true,λv _=>v=vPt D,λv _=>v=.slice (some ⟨Z,0,none⟩) 3 c3,λv _=>v=.pointer (some ⟨Z,0,none⟩),λv _=>v=nv a,λv _=>v=.slice (some ⟨Z,0,none⟩) 3 c3,λv _=>v=.pointer (some ⟨Z,1,none⟩),λv _=>v=nv b3,λv _=>v=.slice (some ⟨Z,0,none⟩) 3 c3,λv _=>v=.pointer (some ⟨Z,2,none⟩),λv _=>v=nv k,λv J=>IntR J v [(a:Int),(b3:Int),(k:Int)],λv _=>v=.int .i64 0,λv _=>v=.bool true,λv _=>v=.bool true,λv _=>v=nv r,λv _=>v=.bool true] [15]
        (set1G _ 0 (λq'=>MgAt D m' q')) (by kernel_rfl) (by kernel_rfl) (by decide) hS2 rfl ?last (λ_ _ _ _ _ _ h=>h) (λ_ _ _ _ _ _ h=>h) ?plain ?step ?fin
       case last=>repeat (first|exact Lasting.nil|refine Lasting.cons (λ_ _ _ _ h=>h) ?_|refine Lasting.cons (λ_ _ _ hle h=>h.le hle) ?_)
       case plain =>
        (repeat' (first|exact trivial|apply And.intro)) <;> first|exact .inl rfl|(refine .inr ?_;intro s vals J bs w hstop hg hJ hS hG;clear hG;refine bS ?_;intro K HK;(first|(refine bJ ?_)|(go_wp2_with (fail)));exact bO)|(refine .inr ?_;intro s vals J bs w hstop hg hJ hS hG;clear hG;refine bS ?_;intro K HK;((with_reducible refine atBslB ?_);(refine' wp_bslG hS ?hr ?_);(case hr=>(intro w0;go_simp;try rfl));clear hS;intro X2 J2 w hJ2 hX2 hS;(try simp only[Act.put]));refine HK.out _ _ ⟨rfl,J2,hJ2,hS,?_⟩;clear HK;simp only[Facts];simp only[Qk,zH,zI,zE,zF,zG,zD,zC,zA,zB,zJ];exact IntR.lit3 hX2)
       case step =>
        refine⟨trivial,?_⟩;intro vals J bs w hg hJ hS hG;have hG:bs=_:=hG;subst hG;have hv14:IntR J (vals 14) [(a:Int),(b3:Int),(k:Int)]:=hg.get 14 (by decide);refine bS ?_;intro K HK;go_wp2_with (go_at_call 65;(with_reducible refine bD (HD.out _ _ _ _ _ hv14 HA3.out hS) ?_);clear hS;intro w p3 HA4 hS)
        exact HK.out _ _ ⟨rfl,J,_,PH.le.refl _,hS,rfl,p3,HA4.out,rfl⟩
       case fin =>
        intro vals J9 bs w hJ hg hS hG;obtain⟨p3,hA4,hns⟩:=hG;subst hns;have hS:=hS.less hJ;simp only[zG] at hS;have hS:=bM _ _ hS;have HA4:=yH hA4;clear hA4 hJ bM z0 z1 z2 hS2;refine bH ?_;clear hg;go_wp2_with fail
        go_ret2;exact⟨rfl,p3,HA4.out,hS.drop.sw.drop⟩
    . obtain⟨a,b3,rfl,hjo,hjm⟩:=hq.ex
      obtain⟨Z,c3,rfl,hz0,hz1⟩:=OwnP.one2 hO;obtain⟨j1,j2,j3,⟨φ,j4⟩,⟨ψ,j5⟩,j6,j7,j8⟩:=hjo;have HJ:Hid (∀(w:World) (J:PH) (ms:List PH),Sat E J (pi::ms) w->Calls Tryz.prog 87 #[vPt D,.int .i64 op,nv a,nv b3] w λe w'=>e=.returned (.tuple #[nv r,.bool true])/\∃p',MgAt D m' p'/\Sat E J (p'::ms) w'):=yH λw J ms hS=>wjoin_any HHyp.out.1 j1 j2 (by rw[j3];exact HHyp.out.2) j4 j5 j6 j7 j8 (by omega:op=5\/op=6\/op=7\/op=8\/op=9) hjm HA2.out hS
      have e4:(op==4)=false:=by rw[jGb];omega
      have e10:(op==10)=false:=by rw[jGb];omega
      clear hq j1 j2 j3 j4 j5 j6 j7 j8 hjm HEnd HHyp hO hacc HLL h89;go_wp2_with (first|(refine aL ?_))
      obtain⟨I1,l1,lm,hS1,bM⟩:=hS.sw.ice;obtain⟨I2,l2,lx,hS2,bX⟩:=hS1.sw.ice;have z0:I2.at Z 0=some (nv a):=PH.at_le l2 (PH.at_le lm hz0);have z1:I2.at Z 1=some (nv b3):=PH.at_le l2 (PH.at_le lm hz1);have x0:I2.at X 0=some (.int .i64 op):=PH.at_le lx (Qb rfl);clear lm l1 l2 lx hS hS1;refine Qf [[],[],[1],[],[3],[3,4],[],[6],[6,7],[0,1,2,3,4,5,6,7,8],[0,1,2,3,4,5,6,7,8,9],[0,1,2,3,4,5,6,7,8,9],[0,1,2,3,4,5,6,7,8,9,10,11],[0,1,2,3,4,5,6,7,8,9,10,11,12]] E I2 _
       [λv _=>v=vPt D,λv _=>v=.pointer (some ⟨X,0,none⟩),λv _=>v=.int .i64 op,λv _=>v=.slice (some ⟨Z,0,none⟩) 2 c3,λv _=>v=.pointer (some ⟨Z,0,none⟩),λv _=>v=nv a,λv _=>v=.slice (some ⟨Z,0,none⟩) 2 c3,λv _=>v=.pointer (some ⟨Z,1,none⟩),λv _=>v=nv b3,λv _=>v=.tuple #[nv r,.bool true],λv _=>v=nv r,λv _=>v=.bool true,λv _=>v=nv r,λv _=>v=.bool true] [9]
       (set1G _ 0 (λq'=>MgAt D m' q')) (by kernel_rfl) (by kernel_rfl) (by decide) hS2 rfl ?last (λ_ _ _ _ _ _ h=>h) (λ_ _ _ _ _ _ h=>h) ?plain ?step ?fin
      case last=>exact bL
      case plain=>(repeat' (first|exact trivial|apply And.intro)) <;> first|exact .inl rfl|(refine .inr ?_;intro s vals J bs w hstop hg hJ hS hG;clear hG;refine bS ?_;intro K HK;(first|(refine bJ ?_)|(go_wp2_with (fail)));exact bO)
      case step =>
       refine⟨trivial,?_⟩;intro vals J bs w hg hJ hS hG;have hG:bs=_:=hG;subst hG;refine bS ?_;intro K HK;go_wp2_with (go_at_call 87;(with_reducible refine bD (HJ.out _ _ _ hS) ?_);clear hS;intro w p2 HA3 hS)
       exact HK.out _ _ ⟨rfl,J,_,PH.le.refl _,hS,rfl,p2,HA3.out,rfl⟩
      case fin =>
       intro vals J9 bs w hJ hg hS hG;obtain⟨p2,hA3,hns⟩:=hG;subst hns;have hS:=hS.less hJ;simp only[zG] at hS;have hS:=bM _ _ (bX _ _ hS).sw;have HA3:=yH hA3;clear hA3 hJ bM bX z0 z1 x0 hS2;refine bH ?_;clear hg;go_wp2_with fail
       go_ret2;exact⟨rfl,p2,HA3.out,hS.drop.sw.drop⟩
end
end
section
open Go.RowKit
theorem szs_length(l:List Tr):l.length<=Tr.sizes l:=by
 induction l with
 | nil=>simp[Tr.sizes]
 | cons k ks ih=>rw[yB,Tr.sizes];have:=k.size_pos;omega
theorem wbuild_any{S:G.Sem}{n H R:Nat}(hS1:∀φ ψ χ,S 1 φ ψ χ=G.iteF φ ψ χ)(hR9:R<=900000):∀b,b<=100000->BuildC S n H R b:=by
 intro b
 induction b with
 | zero=>intro _ t E I ms w D m m' p h hsz;have:=t.size_pos;omega
 | succ b ih =>
   intro hb t E I ms w D m m' p h hsz hin hok hs f hR hm hA hS;obtain⟨op,var,A,cap,kids⟩:=t;have hB:=ih (by omega);have hkids:∀k∈kids,k.size<=b:=λk hk=>by have:=Tr.size_kid (t:=.mk op var A cap kids) hk;omega
   have hlen:kids.length<=100000:=by
    have:=szs_length kids
    have:=(Tr.mk op var A cap kids).size_eq;simp only[Tr.kids] at this;omega
   have hf2:G.Fit n H m (G.Ex.szs (Tr.exs kids)+4) (3*G.Ex.szs (Tr.exs kids)+3):=by
    rw[Tr.ex,G.Ex.sz] at f;exact f.step (by omega) rfl ⟨[],rfl⟩ (by omega)
   have hsh:G.shapeOk n op var (Tr.exs kids).length:=by
    rw[Tr.ex] at hok;cases hok
    assumption
   have hH:m.hs.length<1152921504606846976:=by have:=hf2.lt.1;omega
   unfold G.shapeOk at hsh;rcases hsh with⟨h1,_⟩|⟨rfl,_,h2,h3⟩|⟨h1,_⟩|h1|⟨h1,_⟩|⟨h1,_⟩
   . exact build12 hs h1 hm hA hS
   . exact build3 hs hH (by rw[hR];exact hR9) ⟨h2,h3⟩ hm hA hS
   . exact buildL hS1 hR9 hB hs (by omega) hin hkids hlen hok hf2 hR hm hA hS
   . exact build567 hS1 hR9 hB hs h1 hin hkids hlen hok hf2 hR hm hA hS
   . exact buildL hS1 hR9 hB hs (by omega) hin hkids hlen hok hf2 hR hm hA hS
   . exact buildL hS1 hR9 hB hs (by omega) hin hkids hlen hok hf2 hR hm hA hS
end
namespace G
theorem rightB_rows{rows:List Rw3}{roots:List Int}(h:rightB rows roots=true):∀(i:Nat) r,rows[i]?=some r->∃v lo hi:Nat,r=⟨v,lo,hi⟩/\v<64/\lo/2<=i/\hi/2<=i:=λi r hr=>by
 have hb:rowB r i=true:=by
  cases hb:rowB r i with
  | true=>rfl
  | false=>rw[rightB_row hr hb] at h;cases h
 unfold rowB leadsB at hb;simp only[jI,kNa,jPa,jD] at hb;obtain⟨v,lo,hi⟩:=r;simp only at hb;obtain⟨⟨⟨h1,h2⟩,h3,h4⟩,h5,h6⟩:=hb;obtain⟨v,rfl⟩:=jYa (by omega:0<=v);obtain⟨lo,rfl⟩:=jYa h3;obtain⟨hi,rfl⟩:=jYa h5;exact⟨v,lo,hi,rfl,by omega,by omega,by omega⟩
def evalR(rows:List Rw3)(env:List Bool):Nat->Nat->Bool->Bool
 | 0,_,b=>b
 | k+1,e,b=>if e/2=0 then b else match rows[e/2-1]? with
   | none=>b
   | some r=>evalR rows env k (if env.getD r.v.toNat false then r.hi.toNat else r.lo.toNat) (b != ((if env.getD r.v.toNat false then r.hi.toNat else r.lo.toNat)%2==1))
def evalB(rows:List Rw3)(env:List Bool)(e:Nat):Bool:=!(evalR rows env (e/2+1) e (e%2==1))
end G
section
open Go.RowKit
def BoolRo(J:PH)(v:Value)(l:List Bool):Prop:=∃A c,v=.slice A l.length c/\(0<l.length->∃X o,A=some ⟨X,o,none⟩/\∀(i:Nat) x,l[i]?=some x->J.at X (o+i)=some (.bool x))
theorem BoolRo.le{I J:PH}{v:Value}{l:List Bool}(h:BoolRo I v l)(hJ:I.le J):BoolRo J v l:=by
 obtain⟨A,c,rfl,h2⟩:=h;refine⟨A,c,rfl,λhn=>?_⟩;obtain⟨X,o,e,h3⟩:=h2 hn;exact⟨X,o,e,λi x hx=>PH.at_le hJ (h3 i x hx)⟩
theorem deval_any{W:World}{vl ve:Value}{rows:List G.Rw3}{env:List Bool}{e:Int}(hl:Row3o (Qa W) vl rows)(he:BoolRo (Qa W) ve env)(hn:rows.length<1152921504606846976)(hm:env.length<1152921504606846976)(hf:∀r∈rows,RowFit r)(h1 : -9223372036854775808<=e)(h2:e<9223372036854775808) :
  Calls Tryz.prog 11 #[vl,.int .i64 e,ve] W λe' w'=>e'=.returned (if G.rightB rows [e] then .tuple #[.bool (G.evalB rows env e.toNat),.int .i64 0] else .tuple #[.bool false,.int .i64 3])/\Below W.heap.size W w':=by
 have HRt:=yH (λ(w:World) (X:Nat) (h:(Qa W).le (Qa w)) (hx:(Qa w).at X 0=some (.int .i64 e))=>dright_any (W:=w) (vl:=vl) (vr:=.slice (some ⟨X,0,none⟩) 1 1) (rows:=rows) (roots:=[e]) (hl.le h) (IntR.ro (l:=[e]) ⟨⟨_,_,rfl⟩,λ_=>⟨X,1,rfl,λi x hi=>by
  cases i with
  | zero=>simp only[zB,jEa] at hi;subst hi;exact hx
  | succ i=>simp at hi⟩⟩) hn (by simp) hf (λx hx=>by simp only[jBa,jCa,jJb] at hx;subst hx;exact⟨h1,h2⟩))
 obtain⟨A,c,rfl,hcl⟩:=hl;obtain⟨B,d,rfl,hce⟩:=he;have HCl:=yH hcl;have HCe:=yH hce;have hS:=Sat.start W;clear hcl hce hf;cases hr:G.rightB rows [e] with
 | false =>
   rw[hr] at HRt;rw[jAa (by simp)];go_enter Tryz.func11,Tryz.ntmps11;go_wp2_with (first|(go_at_call 30;(with_reducible refine bB hS (HRt.out _ _ hS.ile (PH.at_le (hS.mle (k:=0) rfl) (Qb rfl))) ?_);clear hS;intro w2 hS)|(refine aN 12 ?_;clear hS;intro X12 w hS))
   go_ret2;exact⟨rfl,hS.end_ (PH.le.refl _)⟩
 | true =>
   rw[hr] at HRt;rw[jAb rfl];have hrows:=G.rightB_rows hr;obtain⟨hroots,h40⟩:=G.rightB_roots hr;obtain⟨e0,e1⟩:=hroots e (.head _);obtain⟨e,rfl⟩:=jYa e0;rw[Int.toNat_natCast];unfold G.evalB;have HRw:=yH hrows;obtain⟨R,hR⟩:∃R,G.evalR rows env (e/2+1) e (e%2==1)=R:=⟨_,rfl⟩;rw[hR];have HR:=yH hR;have p1:(((e:Int)%2)==1)=(e%2==1):=by rw[kRb];simp only[jRb];omega
   have P1:=yH p1;clear hrows hroots hr e0 hR p1;generalize hN:rows.length=N at *
   generalize hM:env.length=M at *
   have HNn:=yH hN;have HMm:=yH hM;clear hN hM;go_enter Tryz.func11,Tryz.ntmps11;go_wp2_with (first|(go_at_call 30;(with_reducible refine bB hS (HRt.out _ _ hS.ile (PH.at_le (hS.mle (k:=0) rfl) (Qb rfl))) ?_);clear hS;intro w2 hS)|(refine aN 12 ?_;clear hS;intro X12 w hS))
   go_loopw [1,8] (λv1 v8 wr=>∃(k e:Nat) (b:Bool),v1=nv e/\v8=.bool b/\e/2<=N/\e/2<k/\G.evalR rows env k e b=R/\Sat W (Qa W) [] wr) (λv1 _ _=>(intOf v1).toNat/2)
   case atStart=>exact⟨e/2+1,e,e%2==1,rfl,by rw[<- P1.out],by omega,by omega,HR.out,hS.drop⟩
   case round =>
    clear hS HR P1 HRt;obtain⟨k,e,b,rfl,rfl,he,hk,hev,hS⟩:=hrel;cases k with
    | zero=>omega
    | succ k =>
      unfold G.evalR at hev;by_cases h0:e/2=0
      . rw[jAb h0] at hev
        have d1:decide ((e:Int)>1)=false:=jVa (by omega);have d2:¬(e:Int)>1:=by omega
        clear h0;go_wp2_with fail
        go_ret2;exact⟨rfl,hS.end_ (PH.le.refl _)⟩
      . rw[jAa h0] at hev
        obtain⟨q,hq⟩:∃q,e/2=q+1:=⟨e/2-1,by omega⟩;rw[hq,kUb] at hev;obtain⟨r,hr⟩:∃r,rows[q]?=some r:=⟨_,yA (by rw[HNn.out];omega)⟩;obtain⟨Y,oY,hA,hcell⟩:=HCl.out (by omega);subst hA;have hcell:=hcell q r hr;obtain⟨v,lo,hi,rfl,hv,hlo,hhi⟩:=HRw.out q r hr;rw[hr] at hev;simp only[Int.toNat_natCast] at hev;have qN:(q:Int)<(N:Int):=by omega
        have c1:(e:Int)>1:=by omega
        have c2:(e:Int)/2-1=(q:Int):=by omega
        have c4:e/2-1=q:=by omega
        have pl:(((lo:Int)%2)==1)=(lo%2==1):=by rw[kRb];simp only[jRb];omega
        have ph:(((hi:Int)%2)==1)=(hi%2==1):=by rw[kRb];simp only[jRb];omega
        have Pl:=yH pl;have Ph:=yH ph;clear pl ph h0 hr HCl HRw;by_cases hve:v<M
        . obtain⟨bb,hbb⟩:∃bb,env[v]?=some bb:=⟨_,yA (by rw[HMm.out];exact hve)⟩
          have hgd:env.getD v false=bb:=by rw[yD,hbb];rfl
          rw[hgd] at hev;obtain⟨Z,oZ,hB,hcb⟩:=HCe.out (by omega);subst hB;have hcb:=hcb v bb hbb;have d1:(v:Int)<(M:Int):=by omega
          clear hgd hbb HCe;cases bb with
          | true =>
            simp only[jEb] at hev;go_wp2_with (first|((with_reducible refine Qe ?_);(refine ldPN hS.ile rfl rfl Zo rfl hcell Xv ?_);refine aM ?_)|(refine aN 9 ?_;clear hS;intro X9 w hS)|(refine aG ?_)|(refine aL ?_)|(refine aS ?_;clear hS;intro w hS))
            exact⟨⟨k,hi,(b != (hi%2==1)),rfl,by rw[<- Ph.out];rfl,by omega,by omega,hev,hS.drop⟩,by simp[intOf];omega⟩
          | false =>
            simp only[jFa,jOb] at hev;go_wp2_with (first|((with_reducible refine Qe ?_);(refine ldPN hS.ile rfl rfl Zo rfl hcell Xv ?_);refine aM ?_)|(refine aN 9 ?_;clear hS;intro X9 w hS)|(refine aG ?_)|(refine aL ?_)|(refine aS ?_;clear hS;intro w hS))
            exact⟨⟨k,lo,(b != (lo%2==1)),rfl,by rw[<- Pl.out];rfl,by omega,by omega,hev,hS.drop⟩,by simp[intOf];omega⟩
        . have hgd:env.getD v false=false:=by rw[yD,jJ (by rw[HMm.out];omega)];rfl
          rw[hgd] at hev;simp only[jFa,jOb] at hev;have d1:¬(v:Int)<(M:Int):=by omega
          clear hgd HCe;go_wp2_with (first|((with_reducible refine Qe ?_);(refine ldPN hS.ile rfl rfl Zo rfl hcell Xv ?_);refine aM ?_)|(refine aN 9 ?_;clear hS;intro X9 w hS)|(refine aL ?_)|(refine aS ?_;clear hS;intro w hS))
          exact⟨⟨k,lo,(b != (lo%2==1)),rfl,by rw[<- Pl.out];rfl,by omega,by omega,hev,hS.drop⟩,by simp[intOf];omega⟩
end
section
open Go.RowKit
theorem Tr.values_take{bl:List Bool}{l:List Tr}{k:Nat}{t:Tr}(h:l[k]?=some t):Tr.values bl (l.take (k+1))=Tr.values bl (l.take k)++[t.value bl]:=by
 rw[Tr.values_map,Tr.values_map,jR,h,jGa];rfl
theorem Tr.values_len(bl:List Bool)(l:List Tr):(Tr.values bl l).length=l.length:=by rw[Tr.values_map,jHb]
theorem len_two{α:Type}{l:List α}(h:l.length=2):∃a b,l=[a,b]:=by
 match l,h with
 | [a,b],_=>exact⟨a,b,rfl⟩
theorem len_three{α:Type}{l:List α}(h:l.length=3):∃a b c,l=[a,b,c]:=by
 match l,h with
 | [a,b,c],_=>exact⟨a,b,c,rfl⟩
theorem szs_len(l:List Tr):l.length<=Tr.sizes l:=by
 induction l with
 | nil=>simp[Tr.sizes]
 | cons k ks ih=>rw[yB,Tr.sizes];have:=k.size_pos;omega
theorem count_snoc(l:List Bool)(b:Bool):(l++[b]).count true=l.count true+(if b then 1 else 0):=by
 rw[List.count_append];cases b <;> rfl
theorem OwnP.bget{m:PH}{e:TypeId}{v:Value}{l:List Bool}(h:OwnP m e 1 v l.length (l.map Value.bool)):∃A c,v=.slice A l.length c/\∀(i:Nat) x,l[i]?=some x->∃X,A=some ⟨X,0,none⟩/\m.at X i=some (.bool x):=by
 obtain⟨A,c,rfl,_⟩:=h.shape;refine⟨A,c,rfl,λi x hx=>?_⟩;obtain⟨X,hX⟩:=h.cells (by have:=(yE.1 hx).1;omega);refine⟨X,hX.1,?_⟩
 have:=hX.2 i (.bool x) (by rw[jO,hx];rfl)
 rwa [jLb] at this
theorem rvalue_any(E:World)(bl:List Bool)(vl:Value):∀(b:Nat) (I:PH) (ms:List PH) (t:Tr) (w:World),t.size<=b->b<=100000->In I t->Ok t->BoolRo I vl bl->Sat E I ms w ->
  Calls Tryz.prog 90 #[t.val,vl] w λe w'=>e=.returned (.bool (t.value bl))/\Sat E I ms w':=by
 intro b
 induction b with
 | zero=>intro I ms t w h;have:=t.size_pos;omega
 | succ b ih =>
   intro I ms t w hsz hb hin hok hbl hS;have IH:=yH (λns k w' (hk:k∈t.kids)=>ih I ns k w' (by have:=Tr.size_kid hk;omega) (by omega) (hin.kid k hk) (hok.kid k hk) hbl);have Hin:=yH hin.at_;have Hlen:=hin.row.1;have Hwr:=yH (wrongP_ok hok.here);have hks:t.kids.length<=100000:=by
    have:=szs_len t.kids
    have:=t.size_eq;omega
   clear ih hin hok;obtain⟨A2,cp,rfl,hbl⟩:=hbl;have HBl:=yH hbl;clear hbl;rw[Tr.value_eq];obtain⟨op,var,A,cap,kids⟩:=t;unfold Tr.val;simp only[Tr.op,Tr.var,Tr.A,Tr.kids,Tr.cap] at *
   have HN:=yH (Tr.values_len bl kids);generalize hvs:Tr.values bl kids=VS at *
   have HVS:=yH hvs;clear hvs hsz hb;go_enter Tryz.func90,Tryz.ntmps90;go_wp2_with (first|(refine aX ?_;clear hS;intro X w hS)|(refine aY ?_;clear hS;intro XS w hS))
   have HS0:=yH hS;have HO0:=yH (OwnP.lit XS 4 1 0 #[] (jC _) rfl);clear hS;go_loopw [5,6,7] (λv5 v6 v7 wr=>∃(i:Nat) (m:PH),i<=kids.length/\v7=.int .i64 i/\v5=.int .i64 (((Tr.values bl (kids.take i)).count true:Nat):Int)/\OwnP m 4 1 v6 (Tr.values bl (kids.take i)).length ((Tr.values bl (kids.take i)).map Value.bool)/\Sat E I (m::PH.one X (.cells #[.int .i64 op,.int .i64 var,.slice A kids.length cap] 87)::ms) wr) (λ_ _ v7 _=>(kids.length-intOf v7).toNat)
   case atStart=>exact⟨0,_,jC _,rfl,rfl,HO0.out,HS0.out⟩
   case round =>
    obtain⟨i,m,hi,rfl,rfl,hO,hS⟩:=hrel;clear HS0 HO0;have hq:(Tr.values bl (kids.take i)).length<=100000:=by rw[Tr.values_len,jSa];omega
    have hq2:(Tr.values bl (kids.take i)).count true<=100000:=jFb List.count_le_length hq;obtain⟨A3,c3,rfl,hc3⟩:=hO.shape;by_cases hlt:i<kids.length
    . obtain⟨Y,off,rfl,hc⟩:=Hin.out (by omega)
      obtain⟨kd,hget⟩:∃kd,kids[i]?=some kd:=⟨_,yA hlt⟩;obtain⟨hcell,hkin⟩:=hc i kd hget;have Hn:=yH (Tr.values_take (bl:=bl) hget);have IHk:=yH (λns w'=>IH.out ns kd w' (jCb hget));unfold Tr.cells at hcell;unfold Tr.val at IHk;have k0:(0:Int)<=(i:Int):=by omega
      have k1:(i:Int)<(kids.length:Int):=by omega
      clear hget hc hkin hc3;have Hcn:=yH (count_snoc (Tr.values bl (kids.take i)));generalize kd.value bl=bv at *
      generalize Tr.values bl (kids.take i)=row at *
      generalize hcnt:row.count true=cnt at *
      clear hcnt;rcases bv with _|_
      all_goals
       go_wp2_with (first|(at_builtin;(refine' apP (p:=_) (m:=_) (v:=_) (n:=_) (xs:=_) (news:=_) 1 (.inr (List.Mem.head _)) hS rfl rfl rfl Tryz.underlying24 bool_info rfl (by decide) rfl ?hown rfl ?hl ?hcl ?h1 ?h63 ?hby ?_);(case hown=>assumption);(case hcl=>exact Cells.one _ _ _ _);(case hl=>rfl);(case h1=>rfl);(case h63=>go_light;unfold maxLen;omega);(case hby=>go_light;omega);clear hS hO;intro v1 m1 w hO hS;(try simp only[zF,zG] at hS);(try simp only[Act.put,zE,zF,zG]))|((with_reducible refine Qu ?_);first|((with_reducible refine Qe ?_);(first|(refine ld1 1 hS rfl rfl ?ha rfl rfl rfl ?_;(case ha =>  exact Yc))|((refine' ldIN (vs:=_) hS rfl rfl ?ha rfl ?hc ?hb ?_);(case ha=>exact Xl);(case hc=>assumption);(case hb=>exact Xd)));(try simp only[Act.put,zE,zF,zG]))|((with_reducible refine Kz ?_);(refine' bsl hS ?hr ?_);(case hr=>(intro w0;go_simp;rfl));clear hS;intro XS w hS;(try simp only[Act.put,zE,zF,zG])))|(go_at_call 90;((with_reducible refine yI (IHk.out _ _ hS) ?_);clear hS;rintro e w ⟨rfl,hS⟩)))
       exact⟨⟨i+1,m1,hlt,by go_num,by rw[Hn.out,Hcn.out];  rfl ,by rw[Hn.out,yG,jGa];exact hO,hS.drop⟩,by simp[intOf];omega⟩
    . obtain rfl:i=kids.length:=by omega
      have hlt':¬((kids.length:Int)<(kids.length:Int)):=by omega
      rw[kDa,HVS.out] at hO hq hq2 ⊢;have HVL:VS.length=kids.length:=HN.out;obtain⟨a1,a2,a3,a4⟩:=Hwr.out;have hop:=op_cases (op:=op) (by omega);clear Hwr HN HVS IH Hin hc3 a1;have HG:=yH (OwnP.bget hO);generalize hcnt:VS.count true=cnt at *
      have HC:=yH hcnt;clear hcnt hO;rcases hop with rfl|rfl|rfl|rfl|rfl|rfl|rfl|rfl|rfl|rfl
      . have e1:vOf bl 1 var VS=true:=by simp[vOf]
        have E1:=yH e1;clear e1;go_wp2_with (first|(refine aL ?_))
        go_ret;rw[E1.out];exact⟨rfl,hS.drop.drop⟩
      . have e1:vOf bl 2 var VS=false:=by simp[vOf]
        have E1:=yH e1;clear e1;go_wp2_with (first|(refine aL ?_))
        go_ret;rw[E1.out];exact⟨rfl,hS.drop.drop⟩
      . have e1:vOf bl 3 var VS=(decide (var<(bl.length:Int))&&bl.getD var.toNat false):=by simp[vOf]
        have E1:=yH e1;clear e1;obtain⟨k,rfl⟩:∃k:Nat,var=(k:Int):=⟨var.toNat,by omega⟩;by_cases hlb:k<bl.length
        . have d1:decide ((k:Int)<(bl.length:Int))=true:=by rw[jPb];omega
          obtain⟨Z,o,rfl,hz⟩:=HBl.out (by omega);obtain⟨x,hx⟩:∃x,bl[k]?=some x:=⟨_,yA hlb⟩;have hcell:=hz k x hx;have e2:bl.getD (k:Int).toNat false=x:=by rw[Int.toNat_natCast,yD,hx];rfl
          have E2:=yH (show vOf bl 3 (k:Int) VS=x from by rw[E1.out,e2,d1,Bool.true_and]);have k0:(0:Int)<=(k:Int):=by omega
          have k1:(k:Int)<(bl.length:Int):=by omega
          clear hz hx e2;go_wp2_with (first|(refine aG ?_)|(refine aL ?_))
          go_ret;rw[E2.out];exact⟨rfl,hS.drop.drop⟩
        . have d1:decide ((k:Int)<(bl.length:Int))=false:=by rw[jD];omega
          have E2:=yH (show vOf bl 3 (k:Int) VS=false from by rw[E1.out,d1,Bool.false_and]);go_wp2_with (first|(refine aL ?_))
          go_ret;rw[E2.out];exact⟨rfl,hS.drop.drop⟩
      . have hl:VS.length=1:=by simp[few,many] at a3 a4;omega
        obtain⟨b0,rfl⟩:∃b0,VS=[b0]:=List.length_eq_one_iff.1 hl;have e1:vOf bl 4 var [b0]=!b0:=by simp[vOf]
        have E1:=yH e1;clear e1;rcases b0 with _|_
        . obtain rfl:cnt=0:=HC.out.symm
          go_wp2_with (first|(refine aL ?_))
          go_ret;rw[E1.out];exact⟨rfl,hS.drop.drop⟩
        . obtain rfl:cnt=1:=HC.out.symm
          go_wp2_with (first|(refine aL ?_))
          go_ret;rw[E1.out];exact⟨rfl,hS.drop.drop⟩
      . have e1:vOf bl 5 var VS=((cnt:Int)==(kids.length:Int)):=by
          rw[<- HVL,<- HC.out];simp[vOf];rfl
        have E1:=yH e1;clear e1;go_wp2_with (first|(refine aL ?_))
        go_ret;rw[E1.out];exact⟨rfl,hS.drop.drop⟩
      . have e1:vOf bl 6 var VS=decide (0<cnt):=by
          rw[<- HC.out];simp[vOf]
        have E1:=yH e1;clear e1;go_wp2_with (first|(refine aL ?_))
        go_ret;rw[E1.out];exact⟨rfl,hS.drop.drop⟩
      . have e1:vOf bl 7 var VS=((cnt:Int).tmod 2==1):=by
          rw[<- HC.out,Int.tmod_eq_emod_of_nonneg (by omega)];simp[vOf];rfl
        have E1:=yH e1;clear e1;go_wp2_with (first|(refine aL ?_))
        go_ret;rw[E1.out];exact⟨rfl,hS.drop.drop⟩
      . have hl:VS.length=2:=by simp[few,many] at a3 a4;omega
        obtain⟨b0,b1,rfl⟩:∃b0 b1,VS=[b0,b1]:=len_two hl;have e1:vOf bl 8 var [b0,b1]=(!b0||b1):=by simp[vOf]
        have E1:=yH e1;clear e1;obtain⟨A4,c4,he,hg⟩:=HG.out;obtain⟨Z,z1,z2⟩:=hg 0 b0 rfl;obtain⟨Z',z3,z4⟩:=hg 1 b1 rfl;injection he with he1 he2 he3
        subst he1;subst z1;injection z3 with z3
        injection z3 with z3
        subst z3;clear hg he2 he3 HC;rw[HVL] at *
        clear HVL;rcases b0 with _|_ <;> rcases b1 with _|_
        all_goals
         go_wp2_with (first|((with_reducible refine Qe ?_);(refine' Xx (v:=_) (.inr (List.Mem.head _)) hS rfl rfl ?ha rfl ?hc ?_);(case ha=>exact ty_agg4);(case hc=>assumption);refine aM ?_)|(refine aG ?_)|(refine aL ?_))
         go_ret;rw[E1.out];exact⟨rfl,hS.drop.drop⟩
      . have hl:VS.length=2:=by simp[few,many] at a3 a4;omega
        obtain⟨b0,b1,rfl⟩:∃b0 b1,VS=[b0,b1]:=len_two hl;have e1:vOf bl 9 var [b0,b1]=(b0==b1):=by simp[vOf]
        have E1:=yH e1;clear e1;rcases b0 with _|_ <;> rcases b1 with _|_ <;> have hc9:=HC.out <;> simp at hc9 <;> subst hc9
        all_goals
         go_wp2_with (first|(refine aL ?_))
         go_ret;rw[E1.out];exact⟨rfl,hS.drop.drop⟩
      . have hl:VS.length=3:=by simp[few,many] at a3 a4;omega
        obtain⟨b0,b1,b2,rfl⟩:∃b0 b1 b2,VS=[b0,b1,b2]:=len_three hl;have e1:vOf bl 10 var [b0,b1,b2]=(if b0 then b1 else b2):=by simp[vOf]
        have E1:=yH e1;clear e1;obtain⟨A4,c4,he,hg⟩:=HG.out;obtain⟨Z,z1,z2⟩:=hg 0 b0 rfl;obtain⟨Z',z3,z4⟩:=hg 1 b1 rfl;obtain⟨Z'',z5,z6⟩:=hg 2 b2 rfl;injection he with he1 he2 he3
        subst he1;subst z1;injection z3 with z3
        injection z3 with z3
        subst z3;injection z5 with z5
        injection z5 with z5
        subst z5;clear hg he2 he3 HC;rw[HVL] at *
        clear HVL;rcases b0 with _|_
        all_goals
         go_wp2_with (first|((with_reducible refine Qe ?_);(refine' Xx (v:=_) (.inr (List.Mem.head _)) hS rfl rfl ?ha rfl ?hc ?_);(case ha=>exact ty_agg4);(case hc=>assumption);refine aM ?_)|(refine aL ?_))
         go_ret;rw[E1.out];exact⟨rfl,hS.drop.drop⟩
end
end Go.Proofs.YtidamcdklgfogaaGreat
