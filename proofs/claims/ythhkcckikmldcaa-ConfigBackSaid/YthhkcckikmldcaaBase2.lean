/-
  Small lemmas on worlds, more.
-/
import Derived.Test.YthhkcckikmldcaaBase
import Derived.Laws.EntriesVeiled
set_option linter.unusedVariables false
set_option linter.unusedSimpArgs false
namespace Go.Proofs.Ythhkcckikmldcaa
open Go.RowKit
theorem cell_new (W : World) (v : Value) (t : TypeId) : (W.alloc (.cells #[v] t)).cell? ⟨W.heap.size, 0, none⟩ = some v := by
  unfold World.cell?
  rw [heap_new]
  rfl
theorem cell_new_at (W : World) (cs : Array Value) (t : TypeId) (j : Nat) (v : Value) (h : cs[j]? = some v) : (W.alloc (.cells cs t)).cell? ⟨W.heap.size, j, none⟩ = some v := by
  unfold World.cell?
  rw [heap_new]
  exact h
theorem cell_heap {W : World} {B : Nat} {cs : Array Value} {t : TypeId} {fr : Nat × Nat} {j : Nat} {v : Value} (hB : W.heap[B]? = some (.cells cs t fr)) (h : cs[j]? = some v) : W.cell? ⟨B, j, none⟩ = some v := by
  unfold World.cell?
  rw [hB]
  exact h
theorem block_keep {B b : Nat} {w w1 : World} {o : Obj} (hb : Below B w w1) (hlt : b < B) (h : w.heap[b]? = some o) : w1.heap[b]? = some o := (hb.block b hlt).trans h
theorem lt_of_heap {w : World} {b : Nat} {o : Obj} (h : w.heap[b]? = some o) : b < w.heap.size := (Array.getElem?_eq_some_iff.1 h).1
end Go.Proofs.Ythhkcckikmldcaa
