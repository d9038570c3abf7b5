/-
  Base of this seat's own texts: plain words on numbers and lists ('first p n': the least place below n at which p holds, else n), small lemmas on worlds. No function of the program is walked here.
-/
import Derived.Test.YthhkcckikmldcaaProg
import Derived.WalkKit
import Derived.Below
import Derived.Deep.LoopGhost
import Derived.Deep.QuietTactic
import Derived.BigQuiet
import Derived.Deep.Draws
import Derived.Deep.DeepMust
import Derived.Deep.DeepFit
import Derived.Lib.Hide
import Derived.Outline
import Derived.WalkLawsBesides
import Derived.WalkSpells
set_option linter.unusedVariables false
set_option linter.unusedSimpArgs false
namespace Go.Proofs.Ythhkcckikmldcaa
open Go.RowKit

/-! ### Plain words -/
/-- The least i < n with p i, else n. -/
def first (p : Nat → Bool) : Nat → Nat
  | 0 => 0
  | k + 1 => if first p k < k then first p k else if p k then k else k + 1

theorem first_le (p : Nat → Bool) (n : Nat) : first p n ≤ n := by
  induction n with
  | zero => exact Nat.le_refl _
  | succ n ih => unfold first; split <;> (try split) <;> omega
theorem first_none (p : Nat → Bool) (n : Nat) : ∀ j, j < first p n → p j = false := by
  induction n with
  | zero => intro j hj; exact absurd hj (Nat.not_lt_zero _)
  | succ n ih =>
    intro j hj
    unfold first at hj
    have hle := first_le p n
    split at hj
    · exact ih j hj
    · split at hj
      · exact ih j (by omega)
      · by_cases e : j = n
        · subst e; simpa using ‹¬ p j = true›
        · exact ih j (by omega)
theorem first_hit (p : Nat → Bool) (n : Nat) (h : first p n < n) : p (first p n) = true := by
  induction n with
  | zero => exact absurd h (Nat.not_lt_zero _)
  | succ n ih =>
    have hle := first_le p n
    unfold first at h ⊢
    split
    · exact ih ‹_›
    · rw [if_neg ‹_›] at h
      split
      · assumption
      · rw [if_neg ‹_›] at h; omega
theorem first_eq {p : Nat → Bool} {n i : Nat} (hi : i ≤ n) (h0 : ∀ j, j < i → p j = false) (h1 : i < n → p i = true) : first p n = i := by
  have a := first_le p n
  rcases Nat.lt_trichotomy (first p n) i with h | h | h
  · have := first_hit p n (by omega); rw [h0 _ h] at this; cases this
  · exact h
  · have := first_none p n i h; rw [h1 (by omega)] at this; cases this
theorem first_congr {p q : Nat → Bool} {n : Nat} (h : ∀ j, j < n → p j = q j) : first p n = first q n :=
  first_eq (first_le q n) (fun j hj => by rw [h j (by have := first_le q n; omega)]; exact first_none q n j hj) (fun hlt => by rw [h _ hlt]; exact first_hit q n hlt)
/-- Where slices.IndexFunc finds it: -1 if nowhere. -/
def idx (p : Nat → Bool) (n : Nat) : Int := if first p n < n then (first p n : Int) else -1

/-! ### Worlds -/
theorem below_all {w w1 w2 : World} (h : Below w.heap.size w w1) (k : Below w1.heap.size w1 w2) : Below w.heap.size w w2 := h.trans (k.mono h.size)
theorem below_drewN {B : Nat} {a w : World} (h : Below B a w) (q : Nat) : Below B a (w.drewN q) := ⟨h.os, h.tape, h.output, h.size, h.block⟩
theorem bcell {W w1 : World} (hb : Below W.heap.size W w1) {b o : Nat} {v : Value} (h : W.cell? ⟨b, o, none⟩ = some v) : w1.cell? ⟨b, o, none⟩ = some v :=
  (hb.cell (World.block_lt_of_cell? W _ h)).trans h
theorem ret_int {k : IntKind} {a b : Int} (h : a = b) : Ending.returned (.int k a) = .returned (.int k b) := by rw [h]
theorem ret_bool {a b : Bool} (h : a = b) : Ending.returned (.bool a) = .returned (.bool b) := by rw [h]

theorem heap_new (w : World) (o : Obj) : (w.alloc o).heap[w.heap.size]? = some o := by
  show (w.heap.push o)[w.heap.size]? = _
  rw [Array.getElem?_push, if_pos rfl]
end Go.Proofs.Ythhkcckikmldcaa
