import Derived.Test.YtdhkkkhnjooioaaGreatZas
import Derived.Test.YtdhkkkhnjooioaaGreatZau
set_option linter.unusedSimpArgs false
set_option linter.unusedVariables false
namespace Go.Proofs.YtdhkkkhnjooioaaGreat
open Go.RowKit
theorem Sat.addOne {E w:World} {I:PH} {ms:List PH} {D:Nat} {o:Obj} (h:Sat E I ms w) (hd:w.heap[D]?=some o) (hI:I D=none) (hm:∀ m ∈ ms,m D=none):Sat E I (PH.one D o::ms) w:=by
 refine ⟨h.os,h.tape,h.output,h.imm,fun n hn=>?_,fun n hn b=>?_,List.pairwise_cons.2 ⟨fun n hn b=>?_,h.dis⟩,h.size⟩
 · rcases List.mem_cons.1 hn with rfl|hn
   · intro b o' hb
     obtain ⟨rfl,rfl⟩:=PH.one_some hb
     exact hd
   · exact h.own n hn
 · rcases List.mem_cons.1 hn with rfl|hn
   · by_cases hb:b=D
     · subst hb;exact .inr hI
     · refine .inl ?_;unfold PH.one;rw [if_neg hb]
   · exact h.sep n hn b
 · by_cases hb:b=D
   · subst hb;exact .inr (hm n hn)
   · refine .inl ?_;unfold PH.one;rw [if_neg hb]
theorem StAt.openTab {E w:World} {I m:PH} {ms:List PH} {S:Nat} {s:G.St} (hA:StAt S s m) {v:Nat} (hv:v<s.tabs.length) (hS:Sat E I (m::ms) w) :
 ∃ (J:PH) (T cT g:Nat) (tm:PH) (ns:List PH),I.le J∧J.at S 2=some (.slice (some ⟨T,0,none⟩) s.tabs.length cT)∧J.at T v=some (vPt g)∧TabAt g (s.tab v) tm∧Sat E J (tm::ns) w ∧
   ∀ tm' t' w',TabAt g t' tm'→Sat E J (tm'::ns) w'→∃ m',StAt S { s with tabs:=s.tabs.set v t' } m'∧Sat E I (m'::ms) w':=by
 obtain ⟨h0,L,P,vV,vL,vT,vC,gs,mV,mL,mP,mT,mC,tms,hbd,hV,hL,hP,hT,hC,hgs,htm,htab⟩:=hA
 have hS:=Sat.unpack hbd hS
 simp only [List.cons_append] at hS
 obtain ⟨T,cT,rfl,_⟩:=hT.ptr (by omega)
 have hg:=List.getElem?_eq_getElem (l:=gs) (i:=v) (by omega)
 have htt:=List.getElem?_eq_getElem (l:=s.tabs) (i:=v) hv
 have htb:s.tabs[v]=s.tab v:=by unfold G.St.tab;rw [List.getD_eq_getElem?_getD,htt];rfl
 have htv:=List.getElem?_eq_getElem (l:=tms) (i:=v) (by omega)
 have hTab:=htab v _ _ _ hg htt htv
 rw [htb] at hTab
 have iT:Cells mT T v (ptC gs[v]):=by
  have:=flat_cells ptC_len hT hg
  rwa [Nat.mul_one] at this
 generalize gs[v]=g at *
 generalize tms[v]=tm at *
 obtain ⟨J1,l1,lS,hS1,bS⟩:=hS.ice
 have hS1:=hS1.pick 4 rfl
 simp only [List.eraseIdx_cons_succ,List.eraseIdx_cons_zero] at hS1
 obtain ⟨J2,l2,lT,hS2,bT⟩:=hS1.ice
 have hidx:(PH.one L (.cells #[vV,vL] 61)::mV::mL::mP::mC::(tms ++ ms))[5+v]?=some tm:=by
  rw [show 5+v=v+1+1+1+1+1 by omega]
  simp only [zA]
  rw [List.getElem?_append_left (by omega)]
  exact htv
 have hS3:=hS2.pick (5+v) hidx
 refine ⟨J2,T,cT,g,tm,_,l1.trans l2,PH.at_le l2 (PH.at_le lS (at_one rfl)),PH.at_le lT (iT.at 0 rfl),hTab,hS3,fun tm' t' w' ht' hS'=>?_⟩
 have h1:=hS'.back (5+v) hidx
 rw [show (PH.one L (.cells #[vV,vL] 61)::mV::mL::mP::mC::(tms ++ ms)).set (5+v) tm'=PH.one L (.cells #[vV,vL] 61)::mV::mL::mP::mC::(tms.set v tm' ++ ms) by
  rw [show 5+v=v+1+1+1+1+1 by omega]
  simp only [zF]
  rw [List.set_append_left _ _ (by omega)]] at h1
 have h2:=(bT _ _ h1).perm (List.perm_middle (l₁:=[_,_,_,_]) (l₂:=mC::(tms.set v tm' ++ ms)) (a:=mT)).symm
 have h3:=bS _ _ h2
 refine StAt.close (s:={ s with tabs:=s.tabs.set v t' }) (L:=L) (P:=P) (vV:=vV) (vL:=vL) (vT:=.slice (some ⟨T,0,none⟩) s.tabs.length cT) (vC:=vC) (mV:=mV) (mL:=mL) (mP:=mP) (mT:=mT) (mC:=mC) (gs:=gs) (tms:=tms.set v tm') ⟨h0.vars,h0.lev,by simpa using h0.tabs,h0.cnt,h0.cntb,h0.dead,h0.levb,h0.varb⟩ hV hL hP (by simpa using hT) hC (by simpa using hgs) (by simpa using htm) (fun x gx t tmx e1 e2 e3=>?_) h3
 by_cases hx:x=v
 · subst hx
   have e2':(s.tabs.set x t')[x]?=some t:=e2
   rw [List.getElem?_set_self hv] at e2'
   rw [List.getElem?_set_self (by omega)] at e3
   rw [hg] at e1
   cases e1;cases e2';cases e3
   exact ht'
 · have e2':(s.tabs.set v t')[x]?=some t:=e2
   rw [List.getElem?_set_ne (fun e=>hx e.symm)] at e2' e3
   exact htab x gx t tmx e1 e2' e3
theorem StAt.openPool {E w:World} {I m:PH} {ms:List PH} {S:Nat} {s:G.St} (hA:StAt S s m) (hS:Sat E I (m::ms) w) :
 ∃ (J:PH) (P:Nat) (mP:PH) (ns:List PH),I.le J∧J.at S 1=some (vPt P)∧PoolAt P s.pl mP∧Sat E J (mP::ns) w ∧
   ∀ mP' p' w',PoolAt P p' mP'→Sat E J (mP'::ns) w'→∃ m',StAt S { s with pl:=p' } m'∧Sat E I (m'::ms) w':=by
 obtain ⟨h0,L,P,vV,vL,vT,vC,gs,mV,mL,mP,mT,mC,tms,hbd,hV,hL,hP,hT,hC,hgs,htm,htab⟩:=hA
 have hS:=Sat.unpack hbd hS
 simp only [List.cons_append] at hS
 obtain ⟨J1,l1,lS,hS1,bS⟩:=hS.ice
 have hS1:=hS1.pick 3 rfl
 simp only [List.eraseIdx_cons_succ,List.eraseIdx_cons_zero] at hS1
 refine ⟨J1,P,mP,_,l1,PH.at_le lS (at_one rfl),hP,hS1,fun mP' p' w' hp' hS'=>?_⟩
 have h2:=hS'.perm (List.perm_middle (l₁:=[_,_,_]) (l₂:=mT::mC::(tms ++ ms)) (a:=mP')).symm
 have h3:=bS _ _ h2
 exact StAt.close (s:={ s with pl:=p' }) ⟨h0.vars,h0.lev,h0.tabs,h0.cnt,h0.cntb,h0.dead,h0.levb,h0.varb⟩ hV hL hp' hT hC hgs htm htab h3
theorem Sat.putOne {E w:World} {I:PH} {ms:List PH} {D:Nat} {o:Obj} (h:Sat E I (PH.one D o::ms) w) (o':Obj):Sat E I ms (w.putObj D o'):=by
 have off:∀ b,b≠D→(w.putObj D o').heap[b]?=w.heap[b]?:=fun b hb=>World.putObj_heap_other hb
 have nI:∀ b u,I b=some u→b≠D:=fun b u hb e=>by
  subst e
  rcases h.sep _ (.head _) b with h1|h1
  · rw [PH.one_self] at h1;cases h1
  · rw [hb] at h1;cases h1
 refine ⟨h.os,h.tape,h.output,fun b u hb=>(off b (nI b u hb)).trans (h.imm b u hb),fun m hm b u hb=>?_,fun m hm b=>h.sep m (.tail _ hm) b,(List.pairwise_cons.1 h.dis).2,by rw [World.putObj_size];exact h.size⟩
 refine (off b ?_).trans (h.own m (.tail _ hm) b u hb)
 rintro rfl
 rcases (List.pairwise_cons.1 h.dis).1 m hm b with h1|h1
 · rw [PH.one_self] at h1;cases h1
 · rw [hb] at h1;cases h1
theorem G.PlOk.give_any {p:G.Pl} (h:G.PlOk p) (id:Nat):G.PlOk (p.give id):=by
 cases hn:p.nd id with
 | some n=>exact (h.give hn).1
 | none =>
   have:p.give id=p:=by unfold G.Pl.give;rw [hn];rfl
   rw [this];exact h
theorem pgive_ok (E w:World) (I m:PH) (ms:List PH) (P:Nat) (p:G.Pl) (id:Nat) (hok:G.PlOk p) (hP:PoolAt P p m) (hS:Sat E I (m::ms) w) :
 Calls Tryz.prog 67 #[.pointer (some ⟨P,0,none⟩),nv id] w fun e w'=>(∃ c,e=.returned (.int .i64 c))∧∃ m',PoolAt P (p.give id) m'∧Sat E I (m'::ms) w':=by
 cases hn:p.nd id with
 | some n =>
   refine (pgive_any E w I m ms P p id n hn (by have:=hok.count;omega) hP hS).mono ?_
   rintro e w' ⟨rfl,h⟩
   exact ⟨⟨_,rfl⟩,h⟩
 | none =>
   have hg:p.give id=p:=by unfold G.Pl.give;rw [hn];rfl
   rw [hg]
   have hI:=Lib.hid (is_any (hP.read.le (hS.own _ (.head _))) (id:Int))
   have hf:p.isI (id:Int)=false:=by rw [G.Pl.isI_nat,hn];rfl
   rw [hf] at hI
   have HP:=Lib.hid hP
   clear hP
   go_enter Tryz.func67,Tryz.ntmps67
   go_wp2_with (first|(go_at_call 76;(with_reducible refine Calls.mono hI.out ?_);rintro e w9 ⟨rfl,rfl⟩))
   go_ret
   exact ⟨⟨_,rfl⟩,m,HP.out,hS⟩
end Go.Proofs.YtdhkkkhnjooioaaGreat
