import Derived.Test.YtidamcdklgfogaaGreatZab
import Derived.Test.YtidamcdklgfogaaGreatZbu
import Derived.Test.YtidamcdklgfogaaGreatZby
import Derived.Test.YtidamcdklgfogaaGreatZbn
import Derived.Test.YtidamcdklgfogaaGreatZac
set_option linter.unusedSimpArgs false
set_option linter.unusedVariables false
set_option maxRecDepth 100000
set_option maxHeartbeats 8000000
namespace Go.Proofs.YtidamcdklgfogaaGreat
namespace G
def S0:Sem:=fun _ φ ψ χ=>iteF φ ψ χ
structure Lives (m1 m2 m3 m4:Mg) (x y f g:Nat) (q:RS):Prop where
 v0:(Mg.new 2 400).var_ ((0:Nat):Int)=some (m1,x,0)
 v1:m1.var_ ((1:Nat):Int)=some (m2,y,0)
 an:m2.andM [(x:Int),(y:Int)]=some (m3,f,0)
 ro:m3.rowsM [(f:Int)]=some (m3,.inl (q,[4]))
 rows:q.rows=[⟨1,1,0⟩,⟨0,1,2⟩]
 ld:m3.do_ (load1 q.rows 4)=some (m4,g,0)
 sm:(m4.same f g).1=true
 s0:Snd S0 2 2 (Mg.new 2 400)
 s1:Sd S0 2 m1
 s2:Sd S0 2 m2
 s3:Sd S0 2 m3
 fx:∃ φ,m2.fn x=some φ
 fy:∃ φ,m2.fn y=some φ
 h1:m1.hs.length≤10∧m1.s.pl.room=400
 h2:m2.hs.length≤10∧m2.s.pl.room=400
 h3:m3.hs.length≤10∧m3.s.pl.room=400
 h4:∀ p ∈ m4.hs,p.2<4611686018427387904
theorem lives_data:∃ m1 m2 m3 m4 x y f g q,Lives m1 m2 m3 m4 x y f g q:=by
 have h:=lives26_is
 unfold lives26 at h
 obtain ⟨s0,_⟩:=Snd.new (S:=S0) (n:=2) (room:=400) (by decide) (by decide) (by decide)
 have hw0:(Mg.new 2 400).waits.length=0:=rfl
 have hh0:(Mg.new 2 400).hs.length=2:=rfl
 have hn0:(Mg.new 2 400).next=2:=rfl
 have hr0:(Mg.new 2 400).s.pl.room=400:=rfl
 have hbig:(1000:Nat)<big:=by decide
 generalize hm0:Mg.new 2 400=m0 at *
 have sd0:Sd S0 2 m0:=by unfold Sd;rw [hn0];exact s0
 obtain ⟨m1,e1,n1⟩:=var_ok sd0 (by omega) (by omega) (by omega) (by rw [hh0,hr0];decide) (v:=0) (by decide)
 have e1':m0.var_ 0=some (m1,m0.next,0):=e1
 rw [e1'] at h
 simp only [zK] at h
 have l1:=n1.len
 have r1:=n1.room
 have c1:=n1.cost
 obtain ⟨w1,hw1⟩:=n1.waits
 have hw1:m1.waits.length≤0:=by have:=congrArg List.length hw1;rw [yG] at this;omega
 obtain ⟨m2,e2,n2⟩:=var_ok n1.ok (by omega) (by omega) (by omega) (by rw [l1,r1,hh0,hr0];decide) (v:=1) (by decide)
 have e2':m1.var_ 1=some (m2,m1.next,0):=e2
 rw [e2'] at h
 simp only [zK] at h
 have l2:=n2.len
 have r2:=n2.room
 have c2:=n2.cost
 obtain ⟨w2,hw2⟩:=n2.waits
 have hw2:m2.waits.length≤0:=by have:=congrArg List.length hw2;rw [yG] at this;omega
 have fx:m2.fn (m0.next:Int)=some (fun ρ=>ρ 0):=by
  have h1:=n2.fn (m0.next:Int)
  have h2:=n1.fn (m0.next:Int)
  have:=n1.lt
  rw [if_neg (by omega)] at h1
  rw [if_pos rfl] at h2
  rw [h1,h2]
 have fy:m2.fn (m1.next:Int)=some (fun ρ=>ρ 1):=by
  have h1:=n2.fn (m1.next:Int)
  rw [if_pos rfl] at h1
  exact h1
 obtain ⟨m3,e3,n3⟩:=doR_ok (K:=2 * (2 ^ 2 - 1)) (φ:=[fun ρ=>ρ 0,fun ρ=>ρ 1].foldl (fun a b ρ=>a ρ && b ρ) (fun _=>true)) n2.ok (by omega) (by omega) (by omega) (by rw [l2,r2,l1,r1,hh0,hr0];decide) (F:=fun m=>foldE andE [(m0.next:Int),(m1.next:Int)] m 0) (fun m' hs hfn hhs=>by
  have:=foldE_ok (F:=andE) (f:=fun a b ρ=>a ρ && b ρ) (andE_ok (S:=S0) (fun _ _ _=>rfl)) [(m0.next:Int),(m1.next:Int)] [fun ρ=>ρ 0,fun ρ=>ρ 1] m' 0 hs (by rw [hfn];simp only [List.map_cons,List.map_nil,fx,fy]) (.inl rfl)
  rw [show den m'.s.nd 0=fun _=>true from funext fun ρ=>den_zero hs.ok.can.g0 ρ] at this
  exact this)
 have e3':m2.andM [(m0.next:Int),(m1.next:Int)]=some (m3,m2.next,0):=e3
 rw [e3'] at h
 simp only [zK] at h
 have l3:=n3.len
 have r3:=n3.room
 cases hro:m3.rowsM [(m2.next:Int)] with
 | none=>rw [hro] at h;cases h
 | some z =>
   obtain ⟨m3',res⟩:=z
   obtain ⟨rfl,hc⟩:=rowsM_cases hro
   rw [hro] at h
   simp only [zK] at h
   rcases hc with ⟨q,rr,rfl,_⟩|rfl
   · simp only at h
     cases hld:m3'.do_ (load1 q.rows (rr.getD 0 0)) with
     | none=>rw [hld] at h;cases h
     | some z =>
       obtain ⟨m4,g,e4⟩:=z
       rw [hld] at h
       simp only [zK,Option.some.injEq,Prod.mk.injEq] at h
       obtain ⟨hq,rfl,hb⟩:=h
       simp only [Bool.and_eq_true,beq_iff_eq] at hb
       obtain ⟨hsm,_,rfl⟩:=hb
       have hR:RowsOk 2 q.rows 0:=by rw [hq];simp [RowsOk]
       obtain ⟨m4',e4,n4⟩:=doR_ok (K:=2 * (1+(2 ^ 2 - 1+0))) (φ:=edgeF (rowFs (q.rows.take (4 / 2)) [fun _=>true]) 4) n3.ok (by
        obtain ⟨w3,hw3⟩:=n3.waits
        have:=congrArg List.length hw3
        rw [yG] at this
        omega) (by omega) (by have:=n3.cost;omega) (by rw [l3,r3,l2,r2,l1,r1,hh0,hr0];decide) (F:=load1 q.rows 4) (fun m' hs hfn hhs=>by
        have:=load1_ok (S:=S0) (fun _ _ _=>rfl) hs hR (root:=4) (by rw [hq];decide)
        rw [hq] at this ⊢
        exact this)
       have hld':m3'.do_ (load1 q.rows 4)=some (m4,g,0):=hld
       rw [e4] at hld'
       obtain ⟨rfl,rfl,_⟩:m4'=m4∧m3'.next=g∧True:=by cases hld';exact ⟨rfl,rfl,trivial⟩
       exact ⟨m1,m2,m3',m4',_,_,_,_,q,⟨by rw [hm0];exact e1,e2,e3',hro,hq,e4,hsm,by rw [hm0];exact s0,n1.ok,n2.ok,n3.ok,⟨_,fx⟩,⟨_,fy⟩,⟨by omega,by omega⟩,⟨by omega,by omega⟩,⟨by omega,by omega⟩,fun p hp=>Snd.hs_lt n4.ok p hp⟩⟩
   · simp only at h
     cases h
end G
section
open Go.RowKit
theorem OwnP.row3 {m:PH} {e:TypeId} {v:Value} {l:List G.Rw3} (h:OwnP m e 3 v l.length (l.flatMap rowC)):Row3R m v l:=by
 by_cases hl:l=[]
 · subst hl
   rcases h.2 with ⟨rfl,_,_⟩|⟨g,cap,cur,rfl,_⟩
   · exact .inl ⟨rfl,rfl⟩
   · obtain ⟨A,c,e1,e2⟩:=h.shape
     injection e1 with a1 a2 a3
     subst a3
     exact .inr ⟨g,0,cap,rfl,e2,fun i x hx=>by cases hx⟩
 · obtain ⟨X,c,rfl,_⟩:=h.ptr (List.length_pos_iff.2 hl)
   obtain ⟨A,c',e1,e2⟩:=h.shape
   injection e1 with a1 a2 a3
   subst a3
   exact .inr ⟨X,0,c,rfl,e2,fun i x hx=>by rw [Nat.zero_add];exact Ke rowC_len h hx⟩
theorem OwnP.ints {m:PH} {e:TypeId} {v:Value} {l:List Nat} (h:OwnP m e 1 v l.length (l.flatMap ivC)):IntR m v (l.map fun (h:Nat)=>(h:Int)):=h.num.intR
section
variable {E w:World} {I:PH} {ms:List PH} {D:Nat} {m1 m2 m3 m4:G.Mg} {x y f g:Nat} {q:G.RS}
theorem lv_and (L:G.Lives m1 m2 m3 m4 x y f g q) {p:PH} {XS:Nat} (hA:MgAt D m2 p) (hS:Sat E I (PH.one XS (.cells #[nv x,nv y] 3)::p::ms) w) :
  Calls Tryz.prog 28 #[vPt D,.slice (some ⟨XS,0,none⟩) 2 2] w fun e w'=>e=.returned (.tuple #[nv f,.int .i64 0])∧∃ p',MgAt D m3 p'∧Sat E I (p'::ms) w':=by
 obtain ⟨J,l1,l2,h2,back⟩:=hS.ice
 obtain ⟨φ,fx⟩:=L.fx
 obtain ⟨ψ,fy⟩:=L.fy
 have hO:IntR J (.slice (some ⟨XS,0,none⟩) 2 2) [(x:Int),(y:Int)]:=(OwnP.ints (l:=[x,y]) (OwnP.lit XS 3 1 2 #[nv x,nv y] (by decide) rfl)).le l2
 refine (wand_any (S:=G.S0) (fun _ _ _=>rfl) L.s2 (by have:=L.h2.1;omega) (by have:=L.h2.2;omega) (φs:=[φ,ψ]) (by simp only [List.map_cons,List.map_nil,fx,fy]) (by simp) hO L.an hA h2).mono ?_
 rintro e w' ⟨rfl,p',h3,h4⟩
 exact ⟨rfl,p',h3,(back _ _ h4).drop⟩
theorem lv_rows (L:G.Lives m1 m2 m3 m4 x y f g q) {p:PH} {XS:Nat} (hA:MgAt D m3 p) (hS:Sat E I (PH.one XS (.cells #[nv f] 3)::p::ms) w) :
  Calls Tryz.prog 16 #[vPt D,.slice (some ⟨XS,0,none⟩) 1 1] w fun e w'=>∃ vR A c,e=.returned (.tuple #[vR,.slice A 1 c,.int .i64 0])∧∃ p' mR mr,OwnP mR 62 3 vR q.rows.length (q.rows.flatMap rowC)∧OwnP mr 3 1 (.slice A 1 c) 1 [nv 4]∧MgAt D m3 p'∧Sat E I (p'::mR::mr::ms) w':=by
 obtain ⟨J,l1,l2,h2,back⟩:=hS.ice
 have hO:IntR J (.slice (some ⟨XS,0,none⟩) 1 1) [(f:Int)]:=(OwnP.ints (l:=[f]) (OwnP.lit XS 3 1 1 #[nv f] (by decide) rfl)).le l2
 refine (wrows_any (S:=G.S0) L.s3 (by have:=L.h3.1;omega) (by have:=L.h3.2;omega) (by simp) hO L.ro hA h2).mono ?_
 rintro e w' ⟨p',ns,⟨vR,vr,mR,mr,rfl,rfl,o1,o2⟩,h3,h4⟩
 have ho:rowsOut (.inl (q,[4]))=(q.rows,[4],0):=if_neg (by rw [L.rows];decide)
 rw [ho] at o1 o2 ⊢
 obtain ⟨A,c,rfl,_⟩:=OwnP.shape o2
 exact ⟨_,A,c,rfl,p',mR,mr,o1,o2,h3,(back _ _ h4).drop⟩
theorem lv_rok (L:G.Lives m1 m2 m3 m4 x y f g q):(∀ r ∈ q.rows,RowFit r)∧G.rightB q.rows [4]=true∧G.RowsOk 2 q.rows 0∧G.wideB 2 q.rows=false∧G.evalB q.rows [true,true] 4=true∧textD q.rows [4]=lst ⟨#[49,32,49,32,48,10,48,32,49,32,50,10,114,111,111,116,115,32,52,10]⟩:=by
 rw [L.rows]
 refine ⟨fun r hr=>?_,by decide,by simp [G.RowsOk],by decide,by decide,by decide +kernel⟩
 simp only [List.mem_cons,List.not_mem_nil,or_false] at hr
 rcases hr with rfl|rfl <;> exact ⟨by decide,by decide,by decide⟩
theorem lv_load (L:G.Lives m1 m2 m3 m4 x y f g q) {p mR mr:PH} {vR:Value} {A:Option Addr} {c:Nat} (o1:OwnP mR 62 3 vR q.rows.length (q.rows.flatMap rowC)) (o2:OwnP mr 3 1 (.slice A 1 c) 1 [nv 4]) (hA:MgAt D m3 p) (hS:Sat E I (p::mR::mr::ms) w) :
  Calls Tryz.prog 22 #[vPt D,vR,.slice A 1 c] w fun e w'=>∃ X c',e=.returned (.tuple #[.slice (some ⟨X,0,none⟩) 1 c',.int .i64 0])∧∃ p' mo,mo.at X 0=some (nv g)∧MgAt D m4 p'∧Sat E I (p'::mo::mR::mr::ms) w':=by
 obtain ⟨k1,k2,k3,k4,_,_⟩:=lv_rok L
 have hS1:Sat E I ([mR,mr] ++ p::ms) w:=(hS.pick 2 rfl).pick 2 rfl |>.perm (List.Perm.swap _ _ _) |>.perm (by  exact List.Perm.swap _ _ _)
 obtain ⟨J,l1,l2,h2,back⟩:=Sat.iceL hS1
 have hv:m3.s.vars.length=2:=L.s3.vars
 have hlm:m3.loadM q.rows [4]=some (m4,[g],0):=by
  unfold G.Mg.loadM
  rw [if_pos k2,hv,k4]
  simp only [Bool.false_eq_true,if_false]
  unfold G.Mg.loadL
  rw [show ((4:Int).toNat)=4 from rfl,L.ld]
  rfl
 refine (dload_any (Gd:=fun m k=>k=0→m=m3) (rows:=q.rows) (roots:=[4]) ⟨fun _ _ _ _ _ _ _ _ _ h=>by omega,fun m k root m' h er hk hm hr hd=>?_⟩ (fun m k root hk hm hr=>?_) (by rw [L.rows];decide) (by simp) k1 (by simp) ((OwnP.row3 o1).le (l2 _ (.head _))) ((OwnP.ints (l:=[4]) o2).le (l2 _ (.tail _ (.head _)))) hlm (fun _=>rfl) hA h2).mono ?_
 · simp only [List.length_singleton] at hk
   obtain rfl:=hm (by omega)
   simp only [List.mem_cons,List.not_mem_nil,or_false] at hr
   subst hr
   have hd:m.do_ (G.load1 q.rows 4)=some (m',h,er):=hd
   rw [L.ld] at hd
   cases hd
   exact L.h4
 · simp only [List.length_singleton] at hk
   obtain rfl:=hm (by omega)
   simp only [List.mem_cons,List.not_mem_nil,or_false] at hr
   subst hr
   exact ⟨_,InvS.of L.s3,InvS.keeps (by have:=L.h3.1;omega) (by have:=L.h3.2;omega),load_inv (fun _ _ _=>rfl) k3,load_do (fun _ _ _=>rfl) k3 (by rw [L.rows];decide)⟩
 · rintro e w' ⟨p',mo,⟨v,rfl,ho⟩,h3,h4⟩
   have ho:OwnP mo 3 1 v [g].length ([g].flatMap ivC):=ho
   obtain ⟨X,c',rfl,hx⟩:=(OwnP.num ho).2 (by simp)
   have h5:=back _ _ h4
   exact ⟨X,c',rfl,p',mo,hx 0 g rfl,h3,(h5.pick 2 rfl).pick 3 rfl |>.perm (List.Perm.swap _ _ _)⟩
end
end
section
open Go.RowKit
theorem lives_any (W:World):Calls Tryz.prog 7 #[] W fun e w'=>e=.returned (.bool true)∧Below W.heap.size W w':=by
 obtain ⟨m1,m2,m3,m4,x,y,f,g,q,L⟩:=G.lives_data
 obtain ⟨k1,k2,k3,k4,k5,k6⟩:=lv_rok L
 have hS:=Sat.start W
 have HNew:Hid (∀ w:World,Sat W (Qa W) [] w→Calls Tryz.prog 26 #[.int .i64 2,.int .i64 400] w fun e w'=>∃ X p,e=.returned (.tuple #[vPt X,.int .i64 0])∧MgAt X (G.Mg.new 2 400) p∧Sat W (Qa W) [p] w'):=yH fun w h=>ddnew_any 2 400 (by decide) (by decide) (by decide) h
 have HV0:Hid (∀ (w:World) (D:Nat) (p:PH),MgAt D (G.Mg.new 2 400) p→Sat W (Qa W) [p] w→Calls Tryz.prog 27 #[vPt D,.int .i64 0] w fun e w'=>e=.returned (.tuple #[nv x,.int .i64 0])∧∃ p',MgAt D m1 p'∧Sat W (Qa W) [p'] w'):=yH fun w D p hA h=>wvar_any (S:=G.S0) L.s0 (by decide) (by decide) (x:=0) (by decide) L.v0 hA h
 have HV1:Hid (∀ (w:World) (D:Nat) (p:PH),MgAt D m1 p→Sat W (Qa W) [p] w→Calls Tryz.prog 27 #[vPt D,.int .i64 1] w fun e w'=>e=.returned (.tuple #[nv y,.int .i64 0])∧∃ p',MgAt D m2 p'∧Sat W (Qa W) [p'] w'):=yH fun w D p hA h=>wvar_any (S:=G.S0) L.s1 (by have:=L.h1.1;omega) (by have:=L.h1.2;omega) (x:=1) (by decide) L.v1 hA h
 have HAnd:=yH (fun (w:World) (D XS:Nat) (p:PH) (hA:MgAt D m2 p) (h:Sat W (Qa W) (PH.one XS (.cells #[nv x,nv y] 3)::[p]) w)=>lv_and L hA h)
 have HRows:=yH (fun (w:World) (D XS:Nat) (p:PH) (hA:MgAt D m3 p) (h:Sat W (Qa W) (PH.one XS (.cells #[nv f] 3)::[p]) w)=>lv_rows L hA h)
 have HLd:=yH (fun (w:World) (D:Nat) (p mR mr:PH) (vR:Value) (A:Option Addr) (c:Nat) (o1:OwnP mR 62 3 vR q.rows.length (q.rows.flatMap rowC)) (o2:OwnP mr 3 1 (.slice A 1 c) 1 [nv 4]) (hA:MgAt D m3 p) (h:Sat W (Qa W) (p::mR::mr::[]) w)=>lv_load L o1 o2 hA h)
 have hl2:q.rows.length=2:=by rw [L.rows];rfl
 have HTx:Hid (∀ (w:World) (mR mr:PH) (vR:Value) (A:Option Addr) (c:Nat),OwnP mR 62 3 vR q.rows.length (q.rows.flatMap rowC)→OwnP mr 3 1 (.slice A 1 c) 1 [nv 4]→mR.le (Qa w)→mr.le (Qa w)→Calls Tryz.prog 8 #[vR,.slice A 1 c] w fun e w'=>e=.returned (.tuple #[.string ⟨#[49,32,49,32,48,10,48,32,49,32,50,10,114,111,111,116,115,32,52,10]⟩,.int .i64 0])∧Below w.heap.size w w'):=by
  refine yH fun w mR mr vR A c o1 o2 h1 h2=>?_
  refine (dtext_any (rows:=q.rows) (roots:=[4]) ((OwnP.row3 o1).le h1).o ((OwnP.ints (l:=[4]) o2).le h2).ro (by rw [hl2];decide) (by simp) k1 (by simp)).mono ?_
  rintro e w' ⟨⟨str,er,rfl,h3,h4⟩,h5⟩
  have h3':lst str=textD q.rows [4]:=by rw [h3];unfold TextR;rw [if_pos k2]
  rw [k6] at h3'
  obtain rfl:=lst_inj h3'
  rw [if_pos k2] at h4
  subst h4
  exact ⟨rfl,h5⟩
 have HSm:=yH (fun (w:World) (D:Nat) (hM:MgR (Qa w) D m4)=>msame_any (w:=w) (f:Int) (g:Int) hM)
 have hsm:m4.same (f:Int) (g:Int)=(true,(m4.same (f:Int) (g:Int)).2):=by rw [← L.sm]
 have HEv:Hid (∀ (w:World) (mR:PH) (vR:Value) (XB:Nat),OwnP mR 62 3 vR q.rows.length (q.rows.flatMap rowC)→mR.le (Qa w)→(PH.one XB (.cells #[.bool true,.bool true] 4)).le (Qa w)→Calls Tryz.prog 11 #[vR,.int .i64 4,.slice (some ⟨XB,0,none⟩) 2 2] w fun e w'=>e=.returned (.tuple #[.bool true,.int .i64 0])∧Below w.heap.size w w'):=by
  refine yH fun w mR vR XB o1 h1 h2=>?_
  refine (deval_any (rows:=q.rows) (env:=[true,true]) (e:=4) ((OwnP.row3 o1).le h1).o ⟨_,_,rfl,fun _=>⟨XB,0,rfl,fun i b hi=>?_⟩⟩ (by rw [hl2];decide) (by decide) k1 (by decide) (by decide)).mono ?_
  · rw [Nat.zero_add]
    refine PH.at_le h2 (Qk ?_)
    match i,hi with
    | 0,hi=>cases hi;rfl
    | 1,hi=>cases hi;rfl
    | i+2,hi=>simp at hi
  · rintro e w' ⟨rfl,h5⟩
    rw [if_pos k2]
    exact ⟨by rw [show ((4:Int).toNat)=4 from rfl,k5],h5⟩
 rw [hsm] at HSm
 clear hsm k1 k2 k3 k4 k5 k6 hl2 L
 generalize (m4.same (f:Int) (g:Int)).2=es at *
 go_enter Tryz.func7,Tryz.ntmps7
 go_wp2_with (first
  | (go_at_call 26;(with_reducible refine yI (HNew.out _ hS) ?_);clear hS;rintro e w ⟨D,p0,rfl,hA,hS⟩;have HA0:=yH hA;clear hA)
  | (go_at_call 27;first|((with_reducible refine yI (HV0.out _ _ _ HA0.out hS) ?_);clear hS;rintro e w ⟨rfl,p1,hA,hS⟩;have HA1:=yH hA;clear hA)|((with_reducible refine yI (HV1.out _ _ _ HA1.out hS) ?_);clear hS;rintro e w ⟨rfl,p2,hA,hS⟩;have HA2:=yH hA;clear hA))
  | (go_at_call 28;(with_reducible refine yI (HAnd.out _ _ _ _ HA2.out hS) ?_);clear hS;rintro e w ⟨rfl,p3,hA,hS⟩;have HA3:=yH hA;clear hA)
  | (go_at_call 16;(with_reducible refine yI (HRows.out _ _ _ _ HA3.out hS) ?_);clear hS;rintro e w ⟨vR,A,c,rfl,p4,mR,mr,o1,o2,hA,hS⟩;obtain ⟨Z,c2,hz,hz2⟩:=(OwnP.num (l:=[4]) o2).2 (by simp);injection hz with hz3 hz4 hz5;subst hz3;have HZ:=yH (hz2 0 4 rfl);clear hz2 hz4 hz5;have HA4:=yH hA;have HO1:=yH o1;have HO2:=yH o2;clear hA o1 o2)
  | (go_at_call 8;(with_reducible refine yI (HTx.out _ _ _ _ _ _ HO1.out HO2.out (hS.mle (k:=1) rfl) (hS.mle (k:=2) rfl)) ?_);rintro e w2 ⟨rfl,hb⟩;replace hS:=hS.below_ hb;clear hb)
  | (go_at_call 22;(with_reducible refine yI (HLd.out _ _ _ _ _ _ _ _ HO1.out HO2.out HA4.out hS) ?_);clear hS;rintro e w ⟨X,c',rfl,p5,mo,hx,hA,hS⟩;have HA5:=yH hA;have HX:=yH hx;clear hA hx)
  | ((with_reducible refine Qb ?_);first|(refine' ldP1 (v:=_) (.inr (List.Mem.tail _ (List.Mem.head _))) hS rfl rfl Qf rfl HX.out ?_)|(refine' ldP1 (v:=_) (.inr (List.Mem.tail _ (List.Mem.tail _ (List.Mem.tail _ (List.Mem.head _))))) hS rfl rfl Qf rfl HZ.out ?_);(try simp only [Act.put,zE,zF,zG]))
  | (go_at_call 29;(with_reducible refine yI (HSm.out _ _ (HA5.out.read.le (hS.mle (k:=0) rfl))) ?_);rintro e w2 ⟨rfl,rfl⟩)
  | (go_at_call 11;(with_reducible refine yI (HEv.out _ _ _ _ HO1.out (hS.mle (k:=3) rfl) (hS.mle (k:=0) rfl)) ?_);rintro e w2 ⟨rfl,hb⟩;replace hS:=hS.below_ hb;clear hb)
  | ((with_reducible refine Qc ?_);first|((with_reducible refine Xa 44 ?_);(refine' bsl hS ?hr ?_);(case hr=>(intro w0;go_simp;try rfl));clear hS;intro XS w hS;(try simp only [Act.eval,zD,zC,zA,zB,zJ,Value.cells] at hS);(try simp only [Act.put,zE,zF,zG]))|((with_reducible refine Xa 51 ?_);(refine' bsl hS ?hr ?_);(case hr=>(intro w0;go_simp;try rfl));clear hS;intro XT w hS;(try simp only [Act.eval,zD,zC,zA,zB,zJ,Value.cells] at hS);(try simp only [Act.put,zE,zF,zG]))|((with_reducible refine Xa 103 ?_);(refine' bsl hS ?hr ?_);(case hr=>(intro w0;go_simp;try rfl));clear hS;intro XB w hS;(try simp only [Act.eval,zD,zC,zA,zB,zJ,Value.cells] at hS);(try simp only [Act.put,zE,zF,zG]))|((with_reducible refine Qp ?_);  ((with_reducible refine Qi ?hw ?_);case hw=>(simp only [Region.wanted,yielded,zC,zA,zB,zK,beq_self_eq_true];done)) )))
 go_ret
 exact ⟨rfl,(hS.sub (List.nil_sublist _)).end_ (PH.le.refl _)⟩
end
section
open Go.RowKit
theorem lst_nil {s:ByteArray} (h:lst s=[]):s=⟨#[]⟩:=lst_inj h
theorem sl_one (X o n c i:Nat) (hi:i<n) (hc:n≤c) (w:World):(Instr.slice 23 (.slice (some ⟨X,o,none⟩) n c) (some (.int .i64 (i:Int))) (some (.int .i64 ((i:Int)+1))) none).run Tryz.prog w=.ok (.slice (some ⟨X,o+i,none⟩) 1 (c - i)) w:=by
 have ht:Tryz.prog.underlying 23=some (.slice (Tryz.prog.elem 23)):=by kernel_rfl
 have hs:(sizeOf (Tryz.prog.elem 23)).run Tryz.prog w=.ok 1 w:=by kernel_rfl
 rw [run_slice_lh w _ _ n c ht .i64 .i64 i ((i:Int)+1) (by omega) (by omega) (by omega),hs]
 have e1:((i:Int)+1).toNat - (i:Int).toNat=1:=by omega
 simp only [Result.andThen,sliced,Int.toNat_natCast]
 rw [if_neg (by omega)]
 simp [Addr.add]
theorem dtells_any {W:World} {A B C:Option Addr} {c d e:Nat} {rows:List G.Rw3} {roots:List Int} {env:List Bool} (hl:Row3o (Qa W) (.slice A rows.length c) rows) (hr:IntRo (Qa W) (.slice B roots.length d) roots) (hd:roots.length≤d) (he:BoolRo (Qa W) (.slice C env.length e) env) (hf:∀ r ∈ rows,RowFit r) (hg:∀ e ∈ roots,-9223372036854775808≤e∧e<9223372036854775808) :
  Calls Tryz.prog 3 #[.slice A rows.length c,.slice B roots.length d,.slice C env.length e] W fun e w'=>e=.returned (.bool true)∧Below W.heap.size W w':=by
 have HLv:=yH lives_any
 have hS:=Sat.start W
 by_cases hbig:rows.length > 40∨roots.length > 20∨env.length > 80
 · generalize rows.length=N at *
   generalize roots.length=M at *
   generalize env.length=V at *
   clear hl hr he hf hg hd
   have hcs:(N:Int) > 40∨(¬ (N:Int) > 40∧(M:Int) > 20)∨(¬ (N:Int) > 40∧¬ (M:Int) > 20∧(V:Int) > 80):=by omega
   rcases hcs with h1|⟨h1,h2⟩|⟨h1,h2,h3⟩
   all_goals
    go_enter Tryz.func3,Tryz.ntmps3
    go_wp2_with (go_at_call 7;(with_reducible refine yI (HLv.out _) ?_);rintro e w2 ⟨rfl,hb⟩;replace hS:=hS.below_ hb;clear hb)
    go_ret
    exact ⟨rfl,hS.end_ (PH.le.refl _)⟩
 · have b1:rows.length≤40:=by omega
   have b2:roots.length≤20:=by omega
   have b3:env.length≤80:=by omega
   have hn:rows.length<1152921504606846976:=by omega
   have hm:roots.length<1152921504606846976:=by omega
   have hv:env.length<1152921504606846976:=by omega
   have HTx:=yH (fun (w:World) (h:(Qa W).le (Qa w))=>dtext_any (hl.le h) (hr.le h) hn (by omega) hf hg)
   have HMy:=yH (fun (w:World) (h:(Qa W).le (Qa w))=>rmay_any (hl.le h) (hr.le h) hn hm hf hg)
   have HRt:=yH (fun (w:World) (h:(Qa W).le (Qa w))=>rtextD_any (hl.le h) (hr.le h) (by omega) (by omega) hf hg)
   have HEv:=yH (fun (x:Int) (w:World) (h:(Qa W).le (Qa w)) (hx : -9223372036854775808≤x∧x<9223372036854775808)=>deval_any (e:=x) (hl.le h) (he.le h) hn hv hf hx.1 hx.2)
   have HRe:=yH (fun (x:Int) (w:World) (h:(Qa W).le (Qa w)) (hx : -9223372036854775808≤x∧x<9223372036854775808) (hr:G.rightB rows [x]=true)=>reval_any (e:=x) (hl.le h) (he.le h) hn hv hr hx.2)
   have HM1:=yH (fun (x:Int) (X i k:Nat) (w:World) (h:(Qa W).le (Qa w)) (hx : -9223372036854775808≤x∧x<9223372036854775808) (hc:(Qa W).at X i=some (.int .i64 x))=>rmay_any (roots:=[x]) (vr:=.slice (some ⟨X,i,none⟩) 1 k) (hl.le h) ⟨_,_,rfl,fun _=>⟨X,i,rfl,fun j y hy=>by
    cases j with
    | zero=>simp only [zB,Option.some.injEq] at hy;subst hy;exact PH.at_le h hc
    | succ j=>simp at hy⟩⟩ hn (by simp) hf (fun y hy=>by simp only [List.mem_cons,List.not_mem_nil,or_false] at hy;subst hy;exact hx))
   obtain ⟨B',d',e1,hcr⟩:=hr
   injection e1 with e2 e3 e4
   subst e2
   have HCr:=yH hcr
   have HG:=yH hg
   clear hl he hf hg hbig hcr e3 e4
   generalize hN:rows.length=N at *
   generalize hM:roots.length=M at *
   generalize hV:env.length=V at *
   have HMm:=yH hM
   clear hN hM hV
   have h1:¬ (N:Int) > 40:=by omega
   have h2:¬ (M:Int) > 20:=by omega
   have h3:¬ (V:Int) > 80:=by omega
   have hloop:True:=trivial
   cases hright:G.rightB rows roots with
   | false =>
     have HTR:=yH (show TextR rows roots=[] by unfold TextR;rw [hright];rfl)
     rw [hright] at HTx HMy
     simp only [Bool.false_eq_true,if_false] at HTx
     clear hright HRt
     go_enter Tryz.func3,Tryz.ntmps3
     go_wp2_with (first|(go_at_call 8;(with_reducible refine yI (HTx.out _ hS.ile) ?_);rintro e' w2 ⟨⟨str,er,rfl,hs1,rfl⟩,hb⟩;replace hS:=hS.below_ hb;clear hb;obtain rfl:=lst_nil (hs1.trans HTR.out);clear hs1)|(go_at_call 9;(with_reducible refine yI (HMy.out _ hS.ile) ?_);rintro e' w2 ⟨rfl,hb⟩;replace hS:=hS.below_ hb;clear hb))
     go_loopw [9] (fun v9 wr=>∃ i:Nat,i≤M∧v9=.int .i64 (i:Int)∧Sat W (Qa W) [] wr) (fun v9 _=>(M - intOf v9).toNat)
     case atStart=>exact ⟨0,Nat.zero_le _,rfl,hS⟩
     case round =>
      clear hS
      obtain ⟨i,hi,rfl,hS⟩:=hrel
      by_cases hlt:i<M
      · obtain ⟨x,hx⟩:∃ x,roots[i]?=some x:=⟨_,yA (by rw [HMm.out];exact hlt)⟩
        obtain ⟨X,oX,hB,hcell⟩:=HCr.out (by omega)
        subst hB
        have hcell:=hcell i x hx
        have hxr:=HG.out x (List.mem_of_getElem? hx)
        have iM:(i:Int)<(M:Int):=by omega
        have hsl:=sl_one X oX M d i hlt hd
        have HEv1:=yH (fun (w:World) (h:(Qa W).le (Qa w))=>HEv.out x w h hxr)
        have HM2:=yH (fun (w:World) (h:(Qa W).le (Qa w))=>HM1.out x X (oX+i) (d - i) w h hxr hcell)
        have HRe1:=yH (fun (w:World) (h:(Qa W).le (Qa w))=>HRe.out x w h hxr)
        clear hx hxr HCr
        cases hrx:G.rightB rows [x] with
        | false =>
          rw [hrx] at HEv1 HM2
          simp only [Bool.false_eq_true,if_false] at HEv1
          clear hrx HRe1
          go_wp2_with (first|(go_at_call 11;(with_reducible refine yI (HEv1.out _ hS.ile) ?_);rintro e' w2 ⟨rfl,hb⟩;replace hS:=hS.below_ hb;clear hb)|(go_at_call 9;(with_reducible refine yI (HM2.out _ hS.ile) ?_);rintro e' w2 ⟨rfl,hb⟩;replace hS:=hS.below_ hb;clear hb)|((with_reducible refine Qc ?_);  ((with_reducible refine Qb ?_);( ((refine' Ka (v:=_) hS rfl rfl ?ha rfl ?hb ?_);(case ha=>exact Qf);(case hb=>assumption)));(try simp only [Act.put,zE,zF,zG]))))
          exact ⟨⟨i+1,by omega,by go_num,hS⟩,by simp [intOf];omega⟩
        | true =>
          have HRe2:=yH (fun (w:World) (h:(Qa W).le (Qa w))=>HRe1.out w h hrx)
          rw [hrx] at HEv1 HM2
          simp only [if_true] at HEv1
          clear hrx HRe1
          generalize G.evalB rows env x.toNat=ev at *
          go_wp2_with (first|(go_at_call 11;(with_reducible refine yI (HEv1.out _ hS.ile) ?_);rintro e' w2 ⟨rfl,hb⟩;replace hS:=hS.below_ hb;clear hb)|(go_at_call 9;(with_reducible refine yI (HM2.out _ hS.ile) ?_);rintro e' w2 ⟨rfl,hb⟩;replace hS:=hS.below_ hb;clear hb)|(go_at_call 12;(with_reducible refine yI (HRe2.out _ hS.ile) ?_);rintro e' w2 ⟨rfl,hb⟩;replace hS:=hS.below_ hb;clear hb)|((with_reducible refine Qc ?_);first|((with_reducible refine Qp ?_);  ((with_reducible refine Qi ?hw ?_);case hw=>(simp only [Region.wanted,yielded,zC,zA,zB,zK,beq_self_eq_true];done)) )|((with_reducible refine Qb ?_);( ((refine' Ka (v:=_) hS rfl rfl ?ha rfl ?hb ?_);(case ha=>exact Qf);(case hb=>assumption)));(try simp only [Act.put,zE,zF,zG]))))
          exact ⟨⟨i+1,by omega,by go_num,hS⟩,by simp [intOf];omega⟩
      · obtain rfl:i=M:=by omega
        go_wp2_with (go_at_call 7;(with_reducible refine yI (HLv.out _) ?_);rintro e' w2 ⟨rfl,hb⟩;replace hS:=hS.below_ hb;clear hb)
        go_ret
        exact ⟨rfl,hS.end_ (PH.le.refl _)⟩
   | true =>
     have HTR:=yH (show TextR rows roots=textD rows roots by unfold TextR;rw [hright];rfl)
     rw [hright] at HTx HMy
     simp only [if_true] at HTx
     clear hright
     go_enter Tryz.func3,Tryz.ntmps3
     go_wp2_with (first|(go_at_call 8;(with_reducible refine yI (HTx.out _ hS.ile) ?_);rintro e' w2 ⟨⟨str,er,rfl,hs1,rfl⟩,hb⟩;replace hS:=hS.below_ hb;clear hb;have HS1:=yH (hs1.trans HTR.out);clear hs1)|(go_at_call 9;(with_reducible refine yI (HMy.out _ hS.ile) ?_);rintro e' w2 ⟨rfl,hb⟩;replace hS:=hS.below_ hb;clear hb)|(go_at_call 10;(with_reducible refine yI (HRt.out _ hS.ile) ?_);rintro e' w2 ⟨⟨str2,rfl,hs2⟩,hb⟩;replace hS:=hS.below_ hb;clear hb;obtain rfl:=lst_inj (hs2.trans HS1.out.symm);clear hs2))
     go_loopw [9] (fun v9 wr=>∃ i:Nat,i≤M∧v9=.int .i64 (i:Int)∧Sat W (Qa W) [] wr) (fun v9 _=>(M - intOf v9).toNat)
     case atStart=>exact ⟨0,Nat.zero_le _,rfl,hS⟩
     case round =>
      clear hS
      obtain ⟨i,hi,rfl,hS⟩:=hrel
      by_cases hlt:i<M
      · obtain ⟨x,hx⟩:∃ x,roots[i]?=some x:=⟨_,yA (by rw [HMm.out];exact hlt)⟩
        obtain ⟨X,oX,hB,hcell⟩:=HCr.out (by omega)
        subst hB
        have hcell:=hcell i x hx
        have hxr:=HG.out x (List.mem_of_getElem? hx)
        have iM:(i:Int)<(M:Int):=by omega
        have hsl:=sl_one X oX M d i hlt hd
        have HEv1:=yH (fun (w:World) (h:(Qa W).le (Qa w))=>HEv.out x w h hxr)
        have HM2:=yH (fun (w:World) (h:(Qa W).le (Qa w))=>HM1.out x X (oX+i) (d - i) w h hxr hcell)
        have HRe1:=yH (fun (w:World) (h:(Qa W).le (Qa w))=>HRe.out x w h hxr)
        clear hx hxr HCr
        cases hrx:G.rightB rows [x] with
        | false =>
          rw [hrx] at HEv1 HM2
          simp only [Bool.false_eq_true,if_false] at HEv1
          clear hrx HRe1
          go_wp2_with (first|(go_at_call 11;(with_reducible refine yI (HEv1.out _ hS.ile) ?_);rintro e' w2 ⟨rfl,hb⟩;replace hS:=hS.below_ hb;clear hb)|(go_at_call 9;(with_reducible refine yI (HM2.out _ hS.ile) ?_);rintro e' w2 ⟨rfl,hb⟩;replace hS:=hS.below_ hb;clear hb)|((with_reducible refine Qc ?_);  ((with_reducible refine Qb ?_);( ((refine' Ka (v:=_) hS rfl rfl ?ha rfl ?hb ?_);(case ha=>exact Qf);(case hb=>assumption)));(try simp only [Act.put,zE,zF,zG]))))
          exact ⟨⟨i+1,by omega,by go_num,hS⟩,by simp [intOf];omega⟩
        | true =>
          have HRe2:=yH (fun (w:World) (h:(Qa W).le (Qa w))=>HRe1.out w h hrx)
          rw [hrx] at HEv1 HM2
          simp only [if_true] at HEv1
          clear hrx HRe1
          generalize G.evalB rows env x.toNat=ev at *
          go_wp2_with (first|(go_at_call 11;(with_reducible refine yI (HEv1.out _ hS.ile) ?_);rintro e' w2 ⟨rfl,hb⟩;replace hS:=hS.below_ hb;clear hb)|(go_at_call 9;(with_reducible refine yI (HM2.out _ hS.ile) ?_);rintro e' w2 ⟨rfl,hb⟩;replace hS:=hS.below_ hb;clear hb)|(go_at_call 12;(with_reducible refine yI (HRe2.out _ hS.ile) ?_);rintro e' w2 ⟨rfl,hb⟩;replace hS:=hS.below_ hb;clear hb)|((with_reducible refine Qc ?_);first|((with_reducible refine Qp ?_);  ((with_reducible refine Qi ?hw ?_);case hw=>(simp only [Region.wanted,yielded,zC,zA,zB,zK,beq_self_eq_true];done)) )|((with_reducible refine Qb ?_);( ((refine' Ka (v:=_) hS rfl rfl ?ha rfl ?hb ?_);(case ha=>exact Qf);(case hb=>assumption)));(try simp only [Act.put,zE,zF,zG]))))
          exact ⟨⟨i+1,by omega,by go_num,hS⟩,by simp [intOf];omega⟩
      · obtain rfl:i=M:=by omega
        go_wp2_with (go_at_call 7;(with_reducible refine yI (HLv.out _) ?_);rintro e' w2 ⟨rfl,hb⟩;replace hS:=hS.below_ hb;clear hb)
        go_ret
        exact ⟨rfl,hS.end_ (PH.le.refl _)⟩
end
section
open Go.ChangeShapes Go.WideShapes Go.ChangeAt Go.RowKit
theorem heap_cell {W:World} {b o:Nat} {v:Value} (h:W.cell? ⟨b,o,none⟩=some v):(Qa W).at b o=some v:=by
 unfold World.cell? at h
 unfold PH.at Qa
 cases hw:W.heap[b]? with
 | none=>rw [hw] at h;cases h
 | some ob =>
   rw [hw] at h
   cases ob <;> first|(cases h)|(simpa using h)
section
variable {H:Type} {enc:TypeId × Value→H} {W:World} {base b0:Nat} {sp:Nat→Bool} {held:Bool} {r:Reach}
theorem r3_ci:Tryz.prog.cellsOf 3=1:=by kernel_rfl
theorem r3_cb:Tryz.prog.cellsOf 4=1:=by kernel_rfl
theorem r3_ca:Tryz.prog.cellsOf 62=3:=by kernel_rfl
theorem trod_r3 {n:Nat} {cs:List Value} {y:DataW H × List MemPlace} (h:DataW.trod enc Tryz.prog W base sp held n 62 cs=some y):∃ a:G.Rw3,cs=rowC a∧RowFit a:=by
 obtain ⟨xs,m,rfl,rfl,hl,hxl,hfs⟩:=DataW.trod_struct Tryz.underlying62 h
 rw [r3_ca] at hl
 match cs,hl with
 | [a0,a1,a2],_ =>
 have hx3:xs.length=3:=by rw [hxl];rfl
 match xs,hx3 with
 | [x0,x1,x2],_ =>
 have f0:=hfs 0 _ rfl
 have f1:=hfs 1 _ rfl
 have f2:=hfs 2 _ rfl
 simp only [zB,zA] at f0 f1 f2
 obtain ⟨i0,h0,_,w0⟩:=DataW.trod_int Tryz.underlying3 f0
 obtain ⟨i1,h1,_,w1⟩:=DataW.trod_int Tryz.underlying3 f1
 obtain ⟨i2,h2,_,w2⟩:=DataW.trod_int Tryz.underlying3 f2
 injection h0 with h0
 injection h1 with h1
 injection h2 with h2
 subst h0 h1 h2
 have w0:=wf_i64 w0
 have w1:=wf_i64 w1
 have w2:=wf_i64 w2
 exact ⟨⟨i0,i1,i2⟩,rfl,⟨w0.1,Int.lt_of_le_of_lt w0.2 (by decide)⟩,⟨w1.1,Int.lt_of_le_of_lt w1.2 (by decide)⟩,⟨w2.1,Int.lt_of_le_of_lt w2.2 (by decide)⟩⟩
theorem open_rows3 {v:Value} {d:DataW H} {p:List MemPlace} (hv:Value.okWide Tryz.prog W r b0 22 v) (h:DataW.Trod enc Tryz.prog W base sp held 22 v d p) :
  ∃ (A:Option Addr) (c:Nat) (l:List G.Rw3),v=.slice A l.length c∧l.length≤c∧c≤maxLen∧(∀ x ∈ l,RowFit x)∧(0<l.length→∃ X o,A=some ⟨X,o,none⟩∧∀ (i:Nat) x,l[i]?=some x→Cells (Qa W) X (o+i * 3) (rowC x)):=by
 obtain ⟨A,c,rows,rfl,h1,h2,h3,h4⟩:=rl_open Tryz.underlying22 r3_ca (by omega) hv h
 obtain ⟨l,rfl,hl⟩:=rows_map (f:=rowC) (Q:=RowFit) (rows:=rows) (fun row hr=>by
  obtain ⟨_,n,y,hy⟩:=h4 row hr
  exact trod_r3 hy)
 have hf:(l.map rowC).flatten=l.flatMap rowC:=by rw [List.flatMap_def]
 rw [hf] at h3
 simp only [List.length_map] at h1 h3 h2
 refine ⟨A,c,l,by simp,h1,h2,hl,fun hn=>?_⟩
 obtain ⟨b,o,e,hb,hc⟩:=h3.2 hn
 refine ⟨b,o,e,fun i x hx k v hk=>?_⟩
 have hi:=(yE.1 hx).1
 have hk3:k<3:=(yE.1 hk).1
 have h5:(l.flatMap rowC)[i * 3+k]?=some v:=by
  have h6:=(flat_split rowC_len l i).2
  rw [← List.getElem?_drop,h6,List.drop_eq_getElem_cons hi]
  have h7:l[i]=x:=by
   have:=yA hi
   rw [hx] at this
   injection this with this
   exact this.symm
  rw [h7,List.flatMap_cons,List.getElem?_append_left (by rw [rowC_len];exact hk3)]
  exact hk
 have h8:=hc (i * 3+k) (by omega)
 rw [h5] at h8
 rw [Nat.add_assoc]
 exact heap_cell h8
theorem open_ints {v:Value} {d:DataW H} {p:List MemPlace} (hv:Value.okWide Tryz.prog W r b0 23 v) (h:DataW.Trod enc Tryz.prog W base sp held 23 v d p) :
  ∃ (A:Option Addr) (c:Nat) (l:List Int),v=.slice A l.length c∧l.length≤c∧c≤maxLen∧(∀ x ∈ l,-9223372036854775808≤x∧x<9223372036854775808)∧(0<l.length→∃ X o,A=some ⟨X,o,none⟩∧∀ (i:Nat) x,l[i]?=some x→(Qa W).at X (o+i)=some (Value.int .i64 x)):=by
 obtain ⟨A,c,rows,rfl,h1,h2,h3,h4⟩:=rl_open Tryz.underlying23 r3_ci (by omega) hv h
 obtain ⟨l,rfl,hl⟩:=rows_map (f:=fun x:Int=>[Value.int .i64 x]) (Q:=fun x => -9223372036854775808≤x∧x<9223372036854775808) (rows:=rows) (fun row hr=>by
  obtain ⟨h5,n,y,hy⟩:=h4 row hr
  obtain ⟨i0,h0,_,w0⟩:=DataW.trod_int Tryz.underlying3 hy
  have w0:=wf_i64 w0
  exact ⟨i0,h0,w0.1,Int.lt_of_le_of_lt w0.2 (by decide)⟩)
 have hf:(l.map fun x:Int=>[Value.int .i64 x]).flatten=l.map (Value.int .i64):=by
  clear h1 h2 h3 h4 hl hv h
  induction l with
  | nil=>rfl
  | cons x l ih=>rw [List.map_cons,List.flatten_cons,ih];rfl
 rw [hf] at h3
 simp only [List.length_map] at h1 h3 h2
 refine ⟨A,c,l,by simp,h1,h2,hl,fun hn=>?_⟩
 obtain ⟨b,o,e,hb,hc⟩:=h3.2 hn
 refine ⟨b,o,e,fun i x hx=>?_⟩
 have h8:=hc i (by have:=(yE.1 hx).1;omega)
 rw [List.getElem?_map,hx] at h8
 exact heap_cell h8
theorem open_bools {v:Value} {d:DataW H} {p:List MemPlace} (hv:Value.okWide Tryz.prog W r b0 24 v) (h:DataW.Trod enc Tryz.prog W base sp held 24 v d p) :
  ∃ (A:Option Addr) (c:Nat) (l:List Bool),v=.slice A l.length c∧l.length≤c∧c≤maxLen∧(∀ x ∈ l,True)∧(0<l.length→∃ X o,A=some ⟨X,o,none⟩∧∀ (i:Nat) x,l[i]?=some x→(Qa W).at X (o+i)=some (Value.bool x)):=by
 obtain ⟨A,c,rows,rfl,h1,h2,h3,h4⟩:=rl_open Tryz.underlying24 r3_cb (by omega) hv h
 obtain ⟨l,rfl,hl⟩:=rows_map (f:=fun x:Bool=>[Value.bool x]) (Q:=fun x=>True) (rows:=rows) (fun row hr=>by
  obtain ⟨h5,n,y,hy⟩:=h4 row hr
  obtain ⟨i0,h0,_⟩:=DataW.trod_bool Tryz.underlying4 hy
  exact ⟨i0,h0,trivial⟩)
 have hf:(l.map fun x:Bool=>[Value.bool x]).flatten=l.map (Value.bool):=by
  clear h1 h2 h3 h4 hl hv h
  induction l with
  | nil=>rfl
  | cons x l ih=>rw [List.map_cons,List.flatten_cons,ih];rfl
 rw [hf] at h3
 simp only [List.length_map] at h1 h3 h2
 refine ⟨A,c,l,by simp,h1,h2,hl,fun hn=>?_⟩
 obtain ⟨b,o,e,hb,hc⟩:=h3.2 hn
 refine ⟨b,o,e,fun i x hx=>?_⟩
 have h8:=hc i (by have:=(yE.1 hx).1;omega)
 rw [List.getElem?_map,hx] at h8
 exact heap_cell h8
end
theorem tells_open (W:World) (A0:Option Addr) (c0:Nat) (l0:List G.Rw3) (A1:Option Addr) (c1:Nat) (l1:List Int) (A2:Option Addr) (c2:Nat) (l2:List Bool) (g0:l0.length≤c0) (m0:c0≤maxLen) (f0:∀ x ∈ l0,RowFit x)
  (r0:0<l0.length→∃ X o,A0=some ⟨X,o,none⟩∧∀ (i:Nat) x,l0[i]?=some x→Cells (Qa W) X (o+i * 3) (rowC x)) (g1:l1.length≤c1) (m1:c1≤maxLen) (f1:∀ x ∈ l1,-9223372036854775808≤x∧x<9223372036854775808)
  (r1:0<l1.length→∃ X o,A1=some ⟨X,o,none⟩∧∀ (i:Nat) x,l1[i]?=some x→(Qa W).at X (o+i)=some (.int .i64 x)) (g2:l2.length≤c2) (m2:c2≤maxLen) (r2:0<l2.length→∃ X o,A2=some ⟨X,o,none⟩∧∀ (i:Nat) x,l2[i]?=some x→(Qa W).at X (o+i)=some (.bool x)) :
  Calls Tryz.prog 3 #[.slice A0 l0.length c0,.slice A1 l1.length c1,.slice A2 l2.length c2] W fun e w'=>e=.returned (.bool true)∧Below W.heap.size W w':=by
 exact dtells_any ⟨A0,c0,rfl,r0⟩ ⟨A1,c1,rfl,r1⟩ g1 ⟨A2,c2,rfl,r2⟩ f0 f1
end
end Go.Proofs.YtidamcdklgfogaaGreat
