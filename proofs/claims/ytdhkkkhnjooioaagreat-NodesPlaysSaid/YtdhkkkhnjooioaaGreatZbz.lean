import Derived.Test.YtdhkkkhnjooioaaGreatZby
import Derived.Test.YtdhkkkhnjooioaaGreatZac
set_option linter.unusedSimpArgs false
set_option linter.unusedVariables false
namespace Go.Proofs.YtdhkkkhnjooioaaGreat
open Go.ChangeShapes Go.WideShapes Go.ChangeAt Go.RowKit
set_option maxRecDepth 100000
theorem nplays_any (W:World) (a0 room:Int) (A:Option Addr) (cap:Nat) (acts:List Bt) (h0:0≤a0∧a0≤255) (hA:RowB (heapOf W) A acts) (hb:∀ x ∈ acts,x.k<256∧x.a<256∧x.b<256) :
 Calls Tryz.prog 3 #[.int .u8 a0,.int .i64 room,.slice A acts.length cap] W fun e w'=>e=.returned (.bool true)∧Below W.heap.size W w':=by
 obtain ⟨q,rfl⟩:=Int.eq_ofNat_of_zero_le h0.1
 by_cases h40:40<(acts.length:Int)
 · exact nplays_long W q room A cap acts h40
 · by_cases hr:room<1∨1048576<room
   · exact nplays_bad W q room A cap acts (by omega) h40 hr
   · obtain ⟨b,rfl⟩:=Int.eq_ofNat_of_zero_le (show 0≤room by omega)
     exact nplays_ok W q b A cap acts (by omega) h40 (by omega) (by omega) hA hb
section
variable {H:Type} {enc:TypeId × Value→H} {W:World} {base b0:Nat} {sp:Nat→Bool} {held:Bool} {r:Reach}
theorem bt_ca:Tryz.prog.cellsOf 43=4:=by kernel_rfl
theorem trod_bt {n:Nat} {cs:List Value} {y:DataW H × List MemPlace} (h:DataW.trod enc Tryz.prog W base sp held n 43 cs=some y):∃ a:Bt,cs=a.cells∧a.k<256∧a.a<256∧a.b<256:=by
 obtain ⟨xs,m,rfl,rfl,hl,hxl,hfs⟩:=DataW.trod_struct Tryz.underlying43 h
 rw [bt_ca] at hl
 match cs,hl with
 | [a0,a1,a2,a3],_ =>
 have hx3:xs.length=4:=by rw [hxl];rfl
 match xs,hx3 with
 | [x0,x1,x2,x3],_ =>
 have f0:=hfs 0 _ rfl
 have f1:=hfs 1 _ rfl
 have f2:=hfs 2 _ rfl
 have f3:=hfs 3 _ rfl
 simp only [zB,zA] at f0 f1 f2 f3
 obtain ⟨i0,h0,_,w0⟩:=DataW.trod_int Tryz.underlying5 f0
 obtain ⟨i1,h1,_,w1⟩:=DataW.trod_int Tryz.underlying5 f1
 obtain ⟨i2,h2,_,w2⟩:=DataW.trod_int Tryz.underlying5 f2
 obtain ⟨i3,h3,_,_⟩:=DataW.trod_int Tryz.underlying3 f3
 injection h0 with h0
 injection h1 with h1
 injection h2 with h2
 injection h3 with h3
 subst h0 h1 h2 h3
 have w0:=wf_u8 w0
 have w1:=wf_u8 w1
 have w2:=wf_u8 w2
 obtain ⟨n0,rfl⟩:=Int.eq_ofNat_of_zero_le w0.1
 obtain ⟨n1,rfl⟩:=Int.eq_ofNat_of_zero_le w1.1
 obtain ⟨n2,rfl⟩:=Int.eq_ofNat_of_zero_le w2.1
 refine ⟨⟨n0,n1,n2,i3⟩,rfl,?_⟩
 show n0<256∧n1<256∧n2<256
 omega
theorem open_bts {v:Value} {d:DataW H} {p:List MemPlace} (hv:Value.okWide Tryz.prog W r b0 22 v) (h:DataW.Trod enc Tryz.prog W base sp held 22 v d p) :
 ∃ (A:Option Addr) (c:Nat) (l:List Bt),v=.slice A l.length c∧RowB (heapOf W) A l∧∀ x ∈ l,x.k<256∧x.a<256∧x.b<256:=by
 obtain ⟨A,c,rows,rfl,h1,h2,h3,h4⟩:=rl_open Tryz.underlying22 bt_ca (by omega) hv h
 obtain ⟨l,rfl,hl⟩:=rows_map (f:=Bt.cells) (Q:=fun a=>a.k<256∧a.a<256∧a.b<256) (rows:=rows) (fun row hr=>by
  obtain ⟨_,n,y,hy⟩:=h4 row hr
  exact trod_bt hy)
 have hf:(l.map Bt.cells).flatten=l.flatMap Bt.cells:=by rw [List.flatMap_def]
 rw [hf] at h3
 simp only [List.length_map] at h1 h3 h2
 refine ⟨A,c,l,by simp,fun hn=>?_,hl⟩
 obtain ⟨b,o,e,hb,hc⟩:=h3.2 hn
 have hfl:(l.flatMap Bt.cells).length=l.length * 4:=h3.1
 refine ⟨b,o,e,fun j u hj=>?_⟩
 have hjl:j<l.length * 4:=by
  have:=(List.getElem?_eq_some_iff.1 hj).1
  omega
 have:=hc j hjl
 rw [hj] at this
 unfold World.cell? at this
 unfold PH.at heapOf
 cases hw:W.heap[b]? with
 | none=>rw [hw] at this;cases this
 | some ob =>
   rw [hw] at this
   cases ob <;> first|(cases this)|(simpa using this)
end
end Go.Proofs.YtdhkkkhnjooioaaGreat
