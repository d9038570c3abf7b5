/-
  The walk of PauseEnds. (Written by gen_wpe.py, a program of this session's own.)
-/
import Derived.Test.YthhkcckikmldcaaPa3
set_option linter.unusedVariables false
set_option linter.unusedSimpArgs false
namespace Go.Proofs.Ythhkcckikmldcaa
open Go.RowKit

theorem dec_more {mx q : Int} {is : Bool} {lo hi x : Int} (h : decF mx q is lo hi x = 3) : q < mx := by
  unfold decF at h
  split at h
  · split at h
    · omega
    · split at h <;> omega
  · omega
theorem heap_setSame {W : World} {B : Nat} {cs : Array Value} {t : TypeId} {fr : Nat × Nat} (h : W.heap[B]? = some (.cells cs t fr)) (j : Nat) (v : Value) : (W.setCell ⟨B, j, none⟩ v).heap[B]? = some (.cells (cs.setIfInBounds j v) t fr) := by
  obtain ⟨hlt, hk⟩ := Array.getElem?_eq_some_iff.1 h
  show (W.heap.modify B _)[B]? = _
  rw [Array.getElem?_eq_getElem (by rw [Array.size_modify]; exact hlt), Array.getElem_modify_self, hk]
  rfl
theorem heap_setOther {W : World} {B N : Nat} {o : Obj} (h : W.heap[B]? = some o) (hne : B ≠ N) (j : Nat) (v : Value) : (W.setCell ⟨N, j, none⟩ v).heap[B]? = some o := by
  rw [Go.Deep.blk_setCell_other W _ v B hne, h]
theorem wrap_ok {x : Int} (h1 : -9223372036854775808 ≤ x) (h2 : x ≤ 9223372036854775807) : wrap64 x = x := by unfold wrap64; omega
/-- What a right symbol says of its pauses. -/
theorem sym_pause {g : Nat → Int} (h : symF g = 0) : 1 ≤ g 7 ∧ g 7 ≤ 1099511627776 ∧ 1 ≤ g 8 ∧ g 8 ≤ 1099511627776 ∧ 0 ≤ g 9 ∧ g 9 ≤ 10 := by
  obtain ⟨_, _, _, h4, h5, _, _⟩ := symF_ok.1 h
  unfold sp4 at h4
  unfold sp5 at h5
  simp only [inAll, List.all_cons, List.all_nil, Bool.and_eq_true, and_true] at h4 h5
  have a := (inB_iff _ _ _).1 h4.2.2.1
  have b := (inB_iff _ _ _).1 h4.2.2.2
  have c := (inB_iff _ _ _).1 h5.1
  exact ⟨a.1, a.2, b.1, b.2, c.1, c.2⟩
theorem put3_below {w W : World} {N : Nat} (h : Below w.heap.size w W) (hn : w.heap.size ≤ N) (v0 v1 v2 : Value) : Below w.heap.size w (((W.setCell ⟨N, 0, none⟩ v0).setCell ⟨N, 1, none⟩ v1).setCell ⟨N, 2, none⟩ v2) :=
  have h0 : Below w.heap.size w (W.setCell ⟨N, 0, none⟩ v0) := Below.setCell h hn v0
  have h1 : Below w.heap.size w ((W.setCell ⟨N, 0, none⟩ v0).setCell ⟨N, 1, none⟩ v1) := Below.setCell h0 hn v1
  Below.setCell h1 hn v2
theorem put3_heap {W : World} {N : Nat} {a b c : Value} {t : TypeId} {fr : Nat × Nat} (h : W.heap[N]? = some (.cells #[a, b, c] t fr)) (v0 v1 v2 : Value) : (((W.setCell ⟨N, 0, none⟩ v0).setCell ⟨N, 1, none⟩ v1).setCell ⟨N, 2, none⟩ v2).heap[N]? = some (.cells #[v0, v1, v2] t fr) :=
  heap_setSame (heap_setSame (heap_setSame h 0 v0) 1 v1) 2 v2
theorem extend_at (g : Nat → Int) (p u u2 : Int) (k : Nat) (hk : (k : Int) < 40) (h2 : wrap64 (u + g 8) = u2) (w : World) :
    Calls Try.prog 47 #[.agg #[.int .i64 (g 0), .int .i64 (g 1), .int .i64 (g 2), .int .i64 (g 3), .int .i64 (g 4), .int .i64 (g 5), .int .i64 (g 6), .int .i64 (g 7), .int .i64 (g 8), .int .i64 (g 9), .int .i64 (g 10), .int .i64 (g 11), .int .i64 (g 12), .int .i64 (g 13), .int .i64 (g 14), .int .i64 (g 15)], .agg #[.int .i64 p, .int .i64 k, .int .i64 u]] w fun e w' => e = .returned (.agg #[.int .i64 4, .int .i64 ((k + 1 : Nat) : Int), .int .i64 u2]) ∧ Below w.heap.size w w' := by
  have h1 : wrap64 ((k : Int) + 1) = ((k + 1 : Nat) : Int) := by rw [wrap_ok (by omega) (by omega)]; omega
  have h := extend_any g p k u w
  rw [h1, h2] at h
  exact h
theorem pause_reach {x s7 s8 s9 k : Int} (hx1 : 0 ≤ x) (hx2 : x ≤ 576460752303423488) (h : 1 ≤ s7 ∧ s7 ≤ 1099511627776 ∧ 1 ≤ s8 ∧ s8 ≤ 1099511627776 ∧ 0 ≤ s9 ∧ s9 ≤ 10) (hk0 : 0 ≤ k) (hk : k ≤ s9) :
    x < x + s7 + k * s8 ∧ x + s7 + k * s8 ≤ wrap64 (x + (s7 + s8 * (s9 + 1))) ∧ wrap64 (x + s7 + k * s8 + s8) = x + s7 + (k + 1) * s8 := by
  obtain ⟨a, b, c, d, e, f⟩ := h
  have m0 : 0 ≤ k * s8 := Int.mul_nonneg hk0 (by omega)
  have m1 : k * s8 ≤ s9 * s8 := Int.mul_le_mul_of_nonneg_right hk (by omega)
  have m2 : s9 * s8 ≤ 10 * s8 := Int.mul_le_mul_of_nonneg_right f (by omega)
  have m3 : s8 * (s9 + 1) = s9 * s8 + s8 := by rw [Int.mul_add, Int.mul_one, Int.mul_comm]
  have m4 : (k + 1) * s8 = k * s8 + s8 := by rw [Int.add_mul, Int.one_mul]
  rw [m3, m4, wrap_ok (by omega) (by omega), wrap_ok (by omega) (by omega)]
  omega
end Go.Proofs.Ythhkcckikmldcaa
