/- Package pool: what a pool is in memory, and the contracts of its plain methods. -/
import Derived.Test.YtcnejokbldohlaaChg
import Derived.Deep.QuietTactic
import Derived.BigQuiet
import Derived.BigRegion
namespace Go.Proofs.Ytcnejokbldohlaa
set_option linter.unusedSimpArgs false
set_option linter.unusedVariables false
open Go.ChangeShapes Go.WideShapes Go.ChangeAt Go.RowKit
set_option linter.unusedVariables false
def TP : TypeId := 69
def ints (l : List Int) : List Value := l.map (Value.int .i64)
def bools (l : List Bool) : List Value := l.map Value.bool
/-- A node: its five numbers. -/
structure Nd where
  id : Int
  var : Int
  lo : Int
  hi : Int
  refs : Int
def Nd.cells (n : Nd) : List Value := [.int .i64 n.id, .int .i64 n.var, .int .i64 n.lo, .int .i64 n.hi, .int .i64 n.refs]
def Nd.zero : Nd := ⟨0, 0, 0, 0, 0⟩
def Nd.val (n : Nd) : Value := .agg #[.int .i64 n.id, .int .i64 n.var, .int .i64 n.lo, .int .i64 n.hi, .int .i64 n.refs]
def nds (l : List Nd) : List Value := l.flatMap Nd.cells
/-- A pool's state: its room, its slots (slot 0 is never used), which are taken, the released ones, how many are taken. -/
structure Pl where
  room : Int
  at_ : List Nd
  taken : List Bool
  free : List Int
  many : Int
/-- Block g holds the pool s; its rows lie in the blocks that F lists behind g. -/
def PoolAt (w : World) (base g : Nat) (F : List Nat) (s : Pl) : Prop :=
  ∃ av tv fv, Blk w g 69 #[.int .i64 s.room, av, tv, fv, .int .i64 s.many] ∧ base ≤ g ∧
    Own w base 29 5 av s.at_.length (nds s.at_) ∧ Own w base 4 1 tv s.taken.length (bools s.taken) ∧ Own w base 3 1 fv s.free.length (ints s.free) ∧
    F = g :: (av.ownBlock.toList ++ tv.ownBlock.toList ++ fv.ownBlock.toList)
theorem make_nodes (W : World) : (Instr.makeSlice 30 (.int .i64 1) (.int .i64 1)).run Try.prog W = .ok (.slice (some ⟨W.heap.size, 0, none⟩) 1 1) (W.alloc (.cells #[.int .i64 0, .int .i64 0, .int .i64 0, .int .i64 0, .int .i64 0] 29)) := by kernel_rfl
theorem make_bools (W : World) : (Instr.makeSlice 50 (.int .i64 1) (.int .i64 1)).run Try.prog W = .ok (.slice (some ⟨W.heap.size, 0, none⟩) 1 1) (W.alloc (.cells #[.bool false] 4)) := by kernel_rfl
theorem Own.made (w : World) (cs : Array Value) (e base n size : Nat) (hs : cs.size = n * size) (hb : base ≤ w.heap.size) (hn : n ≤ maxLen) :
    Own (w.alloc (.cells cs e)) base e size (.slice (some ⟨w.heap.size, 0, none⟩) n n) n cs.toList :=
  ⟨by simpa using hs, .inr ⟨_, n, cs, rfl, hb, heap_alloc_new w _, Nat.le_refl _, hn, by omega, by rw [List.take_of_length_le (by simpa using Nat.le_of_eq hs)]⟩⟩
theorem pool_new1 (w : World) (room : Int) :
    PoolAt (((w.drew.alloc (.cells #[.int .i64 0, .int .i64 0, .int .i64 0, .int .i64 0, .int .i64 0] 29)).alloc (.cells #[.bool false] 4)).alloc (.cells #[.int .i64 room, .slice (some ⟨w.heap.size, 0, none⟩) 1 1, .slice (some ⟨w.heap.size + 1, 0, none⟩) 1 1, .slice none 0 0, .int .i64 0] 69))
      w.heap.size (w.heap.size + 1 + 1) [w.heap.size + 1 + 1, w.heap.size, w.heap.size + 1] ⟨room, [Nd.zero], [false], [], 0⟩ := by
  refine ⟨.slice (some ⟨w.heap.size, 0, none⟩) 1 1, .slice (some ⟨w.heap.size + 1, 0, none⟩) 1 1, .slice none 0 0, ?_, by omega, ?_, ?_, Own.nil _ _ _ _, rfl⟩
  · have h := Blk.new ((w.drew.alloc (.cells #[.int .i64 0, .int .i64 0, .int .i64 0, .int .i64 0, .int .i64 0] 29)).alloc (.cells #[.bool false] 4)) 69 #[.int .i64 room, .slice (some ⟨w.heap.size, 0, none⟩) 1 1, .slice (some ⟨w.heap.size + 1, 0, none⟩) 1 1, .slice none 0 0, .int .i64 0]
    simpa using h
  · have h := ((Own.made (w.drew) #[.int .i64 0, .int .i64 0, .int .i64 0, .int .i64 0, .int .i64 0] 29 w.heap.size 1 5 rfl (by simp) (by unfold maxLen; omega)).alloc (.cells #[.bool false] 4)).alloc (.cells #[.int .i64 room, .slice (some ⟨w.heap.size, 0, none⟩) 1 1, .slice (some ⟨w.heap.size + 1, 0, none⟩) 1 1, .slice none 0 0, .int .i64 0] 69)
    simpa [nds, Nd.cells, Nd.zero, bools] using h
  · have h := (Own.made (w.drew.alloc (.cells #[.int .i64 0, .int .i64 0, .int .i64 0, .int .i64 0, .int .i64 0] 29)) #[.bool false] 4 w.heap.size 1 1 rfl (by simp) (by unfold maxLen; omega)).alloc (.cells #[.int .i64 room, .slice (some ⟨w.heap.size, 0, none⟩) 1 1, .slice (some ⟨w.heap.size + 1, 0, none⟩) 1 1, .slice none 0 0, .int .i64 0] 69)
    simpa [nds, Nd.cells, Nd.zero, bools] using h
theorem pool_new2 (w : World) (room : Int) :
    PoolAt (((w.drew.alloc (.cells #[.bool false] 4)).alloc (.cells #[.int .i64 0, .int .i64 0, .int .i64 0, .int .i64 0, .int .i64 0] 29)).alloc (.cells #[.int .i64 room, .slice (some ⟨w.heap.size + 1, 0, none⟩) 1 1, .slice (some ⟨w.heap.size, 0, none⟩) 1 1, .slice none 0 0, .int .i64 0] 69))
      w.heap.size (w.heap.size + 1 + 1) [w.heap.size + 1 + 1, w.heap.size + 1, w.heap.size] ⟨room, [Nd.zero], [false], [], 0⟩ := by
  refine ⟨.slice (some ⟨w.heap.size + 1, 0, none⟩) 1 1, .slice (some ⟨w.heap.size, 0, none⟩) 1 1, .slice none 0 0, ?_, by omega, ?_, ?_, Own.nil _ _ _ _, rfl⟩
  · have h := Blk.new ((w.drew.alloc (.cells #[.bool false] 4)).alloc (.cells #[.int .i64 0, .int .i64 0, .int .i64 0, .int .i64 0, .int .i64 0] 29)) 69 #[.int .i64 room, .slice (some ⟨w.heap.size + 1, 0, none⟩) 1 1, .slice (some ⟨w.heap.size, 0, none⟩) 1 1, .slice none 0 0, .int .i64 0]
    simpa using h
  · have h := (Own.made (w.drew.alloc (.cells #[.bool false] 4)) #[.int .i64 0, .int .i64 0, .int .i64 0, .int .i64 0, .int .i64 0] 29 w.heap.size 1 5 rfl (by simp) (by unfold maxLen; omega)).alloc (.cells #[.int .i64 room, .slice (some ⟨w.heap.size + 1, 0, none⟩) 1 1, .slice (some ⟨w.heap.size, 0, none⟩) 1 1, .slice none 0 0, .int .i64 0] 69)
    simpa [nds, Nd.cells, Nd.zero, bools] using h
  · have h := ((Own.made (w.drew) #[.bool false] 4 w.heap.size 1 1 rfl (by simp) (by unfold maxLen; omega)).alloc (.cells #[.int .i64 0, .int .i64 0, .int .i64 0, .int .i64 0, .int .i64 0] 29)).alloc (.cells #[.int .i64 room, .slice (some ⟨w.heap.size + 1, 0, none⟩) 1 1, .slice (some ⟨w.heap.size, 0, none⟩) 1 1, .slice none 0 0, .int .i64 0] 69)
    simpa [nds, Nd.cells, Nd.zero, bools] using h
theorem new_any (room : Int) (w : World) (h1 : 1 ≤ room) (h2 : room ≤ 1048576) :
    Calls Try.prog 11 #[.int .i64 room] w fun r w' => ∃ g F, r = .returned (.tuple #[.pointer (some ⟨g, 0, none⟩), .int .i64 0]) ∧ PoolAt w' w.heap.size g F ⟨room, [Nd.zero], [false], [], 0⟩ ∧ Chg [] F w w' := by
  have m1 := make_nodes
  have m2 := make_bools
  go_enter Try.func11, Try.ntmps11
  go_wp2_with fail
  go_region
  all_goals go_wp2
  all_goals go_ret2
  all_goals go_light
  · exact ⟨_, _, rfl, pool_new1 w room, ((((Chg.refl [] w).drew.alloc _).alloc _).alloc _).to (by simp; omega)⟩
  · exact ⟨_, _, rfl, pool_new2 w room, ((((Chg.refl [] w).drew.alloc _).alloc _).alloc _).to (by simp; omega)⟩
end Go.Proofs.Ytcnejokbldohlaa
