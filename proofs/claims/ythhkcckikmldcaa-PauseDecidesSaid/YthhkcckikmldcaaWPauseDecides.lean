/-
  The walk of PauseDecides. (Written by gen_wpd.py, a program of this session's own.)
-/
import Derived.Test.YthhkcckikmldcaaPa3
import Derived.Deep.RegionHeld3
set_option linter.unusedVariables false
set_option linter.unusedSimpArgs false
namespace Go.Proofs.Ythhkcckikmldcaa
open Go.RowKit

theorem dec_range (mx q : Int) (is : Bool) (lo hi x : Int) : 1 ≤ decF mx q is lo hi x ∧ decF mx q is lo hi x ≤ 4 := by
  unfold decF
  split
  · split
    · omega
    · split <;> omega
  · omega

set_option maxRecDepth 100000 in
set_option maxHeartbeats 8000000 in
theorem walkPauseDecides (w : World) (g : Nat → Int) (hg : ∀ j, j < 16 → i64Ok (g j)) (s : Nat → Int) (hs : ∀ j, j < 3 → i64Ok (s j)) (x : Int) (hx : -9223372036854775808 ≤ x ∧ x ≤ 9223372036854775807) (is : Bool) (b : Nat → Int) (hbd : ∀ j, j < 2 → i64Ok (b j)) :
    Calls Try.prog 11 #[.agg #[.int .i64 (g 0), .int .i64 (g 1), .int .i64 (g 2), .int .i64 (g 3), .int .i64 (g 4), .int .i64 (g 5), .int .i64 (g 6), .int .i64 (g 7), .int .i64 (g 8), .int .i64 (g 9), .int .i64 (g 10), .int .i64 (g 11), .int .i64 (g 12), .int .i64 (g 13), .int .i64 (g 14), .int .i64 (g 15)], .agg #[.int .i64 (s 0), .int .i64 (s 1), .int .i64 (s 2)], .int .i64 x, .bool is, .agg #[.int .i64 (b 0), .int .i64 (b 1)]] w fun e w' => e = .returned (.bool true) ∧ Below w.heap.size w w' := by
  have HL := Lib.hid (light22_any g (s 0) (s 1) (s 2) none 0 0 (fun _ => 0) (((w.alloc (.cells #[.int .i64 (g 0), .int .i64 (g 1), .int .i64 (g 2), .int .i64 (g 3), .int .i64 (g 4), .int .i64 (g 5), .int .i64 (g 6), .int .i64 (g 7), .int .i64 (g 8), .int .i64 (g 9), .int .i64 (g 10), .int .i64 (g 11), .int .i64 (g 12), .int .i64 (g 13), .int .i64 (g 14), .int .i64 (g 15)] 56)).alloc (.cells #[.int .i64 (s 0), .int .i64 (s 1), .int .i64 (s 2)] 58)).alloc (.cells #[.int .i64 (b 0), .int .i64 (b 1)] 75)) (by omega) (fun h => absurd h (Nat.lt_irrefl _)) (fun j hj => (hg j hj).2))
  have e1 : (tickOk (fun _ => 0) 0 && lightB g (s 1) (s 2)) = lightB g (s 1) (s 2) := rfl
  rw [e1] at HL
  have h0 : (((w.alloc (.cells #[.int .i64 (g 0), .int .i64 (g 1), .int .i64 (g 2), .int .i64 (g 3), .int .i64 (g 4), .int .i64 (g 5), .int .i64 (g 6), .int .i64 (g 7), .int .i64 (g 8), .int .i64 (g 9), .int .i64 (g 10), .int .i64 (g 11), .int .i64 (g 12), .int .i64 (g 13), .int .i64 (g 14), .int .i64 (g 15)] 56)).alloc (.cells #[.int .i64 (s 0), .int .i64 (s 1), .int .i64 (s 2)] 58)).alloc (.cells #[.int .i64 (b 0), .int .i64 (b 1)] 75)).heap[w.heap.size]? = some (.cells #[.int .i64 (g 0), .int .i64 (g 1), .int .i64 (g 2), .int .i64 (g 3), .int .i64 (g 4), .int .i64 (g 5), .int .i64 (g 6), .int .i64 (g 7), .int .i64 (g 8), .int .i64 (g 9), .int .i64 (g 10), .int .i64 (g 11), .int .i64 (g 12), .int .i64 (g 13), .int .i64 (g 14), .int .i64 (g 15)] 56 (0, 0)) := alloc_old _ (alloc_old _ (heap_new _ _))
  have h1 : (((w.alloc (.cells #[.int .i64 (g 0), .int .i64 (g 1), .int .i64 (g 2), .int .i64 (g 3), .int .i64 (g 4), .int .i64 (g 5), .int .i64 (g 6), .int .i64 (g 7), .int .i64 (g 8), .int .i64 (g 9), .int .i64 (g 10), .int .i64 (g 11), .int .i64 (g 12), .int .i64 (g 13), .int .i64 (g 14), .int .i64 (g 15)] 56)).alloc (.cells #[.int .i64 (s 0), .int .i64 (s 1), .int .i64 (s 2)] 58)).alloc (.cells #[.int .i64 (b 0), .int .i64 (b 1)] 75)).heap[w.heap.size + 1]? = some (.cells #[.int .i64 (s 0), .int .i64 (s 1), .int .i64 (s 2)] 58 (0, 0)) := alloc_old _ (alloc_new _ (by simp))
  have h2 : (((w.alloc (.cells #[.int .i64 (g 0), .int .i64 (g 1), .int .i64 (g 2), .int .i64 (g 3), .int .i64 (g 4), .int .i64 (g 5), .int .i64 (g 6), .int .i64 (g 7), .int .i64 (g 8), .int .i64 (g 9), .int .i64 (g 10), .int .i64 (g 11), .int .i64 (g 12), .int .i64 (g 13), .int .i64 (g 14), .int .i64 (g 15)] 56)).alloc (.cells #[.int .i64 (s 0), .int .i64 (s 1), .int .i64 (s 2)] 58)).alloc (.cells #[.int .i64 (b 0), .int .i64 (b 1)] 75)).heap[w.heap.size + 1 + 1]? = some (.cells #[.int .i64 (b 0), .int .i64 (b 1)] 75 (0, 0)) := alloc_new _ (by simp)
  have K0 := Lib.hid h0
  have K1 := Lib.hid h1
  have K2 := Lib.hid h2
  clear h0 h1 h2 e1 hg hs hbd
  cases hl : lightB g (s 1) (s 2)
  · rw [hl] at HL
    clear hl
    go_enter Try.func11, Try.ntmps11
    go_wp2_with fail
    refine (HL.out).mono ?_
    rintro e w1 ⟨rfl, hb1⟩
    go_wp2_with fail
    refine (alive22 _).mono ?_
    rintro e w2 ⟨rfl, hb2⟩
    go_wp2_with fail
    go_ret
    exact ⟨rfl, below_all (below_all (below_al (below_al (below_al (Below.refl _ _) _) _) _) hb1) hb2⟩
  · rw [hl] at HL
    clear hl
    have HD := Lib.hid (fun W => decide_any g (s 0) (s 1) (s 2) x 1 0 (b 0) (b 1) is W)
    have HE := Lib.hid (fun W => refDecide_any g (s 0) (s 1) (s 2) x 1 0 (b 0) (b 1) is W)
    have hr := dec_range (g 9) (s 1) is (b 0) (b 1) x
    obtain ⟨hr1, hr2⟩ := hr
    generalize decF (g 9) (s 1) is (b 0) (b 1) x = n at HD HE hr1 hr2
    go_enter Try.func11, Try.ntmps11
    go_wp2_with fail
    refine (HL.out).mono ?_
    rintro e w1 ⟨rfl, hb1⟩
    have B1 := Lib.hid hb1
    clear hb1
    go_wp2_with fail
    have ra0 : ∀ W : World, W.heap[w.heap.size]? = some (.cells #[.int .i64 (g 0), .int .i64 (g 1), .int .i64 (g 2), .int .i64 (g 3), .int .i64 (g 4), .int .i64 (g 5), .int .i64 (g 6), .int .i64 (g 7), .int .i64 (g 8), .int .i64 (g 9), .int .i64 (g 10), .int .i64 (g 11), .int .i64 (g 12), .int .i64 (g 13), .int .i64 (g 14), .int .i64 (g 15)] 56 (0, 0)) → W.cell? ⟨w.heap.size, 0, none⟩ = some (.int .i64 (g 0)) := fun W h => cell_heap h rfl
    have ra1 : ∀ W : World, W.heap[w.heap.size]? = some (.cells #[.int .i64 (g 0), .int .i64 (g 1), .int .i64 (g 2), .int .i64 (g 3), .int .i64 (g 4), .int .i64 (g 5), .int .i64 (g 6), .int .i64 (g 7), .int .i64 (g 8), .int .i64 (g 9), .int .i64 (g 10), .int .i64 (g 11), .int .i64 (g 12), .int .i64 (g 13), .int .i64 (g 14), .int .i64 (g 15)] 56 (0, 0)) → W.cell? ⟨w.heap.size, 1, none⟩ = some (.int .i64 (g 1)) := fun W h => cell_heap h rfl
    have ra2 : ∀ W : World, W.heap[w.heap.size]? = some (.cells #[.int .i64 (g 0), .int .i64 (g 1), .int .i64 (g 2), .int .i64 (g 3), .int .i64 (g 4), .int .i64 (g 5), .int .i64 (g 6), .int .i64 (g 7), .int .i64 (g 8), .int .i64 (g 9), .int .i64 (g 10), .int .i64 (g 11), .int .i64 (g 12), .int .i64 (g 13), .int .i64 (g 14), .int .i64 (g 15)] 56 (0, 0)) → W.cell? ⟨w.heap.size, 2, none⟩ = some (.int .i64 (g 2)) := fun W h => cell_heap h rfl
    have ra3 : ∀ W : World, W.heap[w.heap.size]? = some (.cells #[.int .i64 (g 0), .int .i64 (g 1), .int .i64 (g 2), .int .i64 (g 3), .int .i64 (g 4), .int .i64 (g 5), .int .i64 (g 6), .int .i64 (g 7), .int .i64 (g 8), .int .i64 (g 9), .int .i64 (g 10), .int .i64 (g 11), .int .i64 (g 12), .int .i64 (g 13), .int .i64 (g 14), .int .i64 (g 15)] 56 (0, 0)) → W.cell? ⟨w.heap.size, 3, none⟩ = some (.int .i64 (g 3)) := fun W h => cell_heap h rfl
    have ra4 : ∀ W : World, W.heap[w.heap.size]? = some (.cells #[.int .i64 (g 0), .int .i64 (g 1), .int .i64 (g 2), .int .i64 (g 3), .int .i64 (g 4), .int .i64 (g 5), .int .i64 (g 6), .int .i64 (g 7), .int .i64 (g 8), .int .i64 (g 9), .int .i64 (g 10), .int .i64 (g 11), .int .i64 (g 12), .int .i64 (g 13), .int .i64 (g 14), .int .i64 (g 15)] 56 (0, 0)) → W.cell? ⟨w.heap.size, 4, none⟩ = some (.int .i64 (g 4)) := fun W h => cell_heap h rfl
    have ra5 : ∀ W : World, W.heap[w.heap.size]? = some (.cells #[.int .i64 (g 0), .int .i64 (g 1), .int .i64 (g 2), .int .i64 (g 3), .int .i64 (g 4), .int .i64 (g 5), .int .i64 (g 6), .int .i64 (g 7), .int .i64 (g 8), .int .i64 (g 9), .int .i64 (g 10), .int .i64 (g 11), .int .i64 (g 12), .int .i64 (g 13), .int .i64 (g 14), .int .i64 (g 15)] 56 (0, 0)) → W.cell? ⟨w.heap.size, 5, none⟩ = some (.int .i64 (g 5)) := fun W h => cell_heap h rfl
    have ra6 : ∀ W : World, W.heap[w.heap.size]? = some (.cells #[.int .i64 (g 0), .int .i64 (g 1), .int .i64 (g 2), .int .i64 (g 3), .int .i64 (g 4), .int .i64 (g 5), .int .i64 (g 6), .int .i64 (g 7), .int .i64 (g 8), .int .i64 (g 9), .int .i64 (g 10), .int .i64 (g 11), .int .i64 (g 12), .int .i64 (g 13), .int .i64 (g 14), .int .i64 (g 15)] 56 (0, 0)) → W.cell? ⟨w.heap.size, 6, none⟩ = some (.int .i64 (g 6)) := fun W h => cell_heap h rfl
    have ra7 : ∀ W : World, W.heap[w.heap.size]? = some (.cells #[.int .i64 (g 0), .int .i64 (g 1), .int .i64 (g 2), .int .i64 (g 3), .int .i64 (g 4), .int .i64 (g 5), .int .i64 (g 6), .int .i64 (g 7), .int .i64 (g 8), .int .i64 (g 9), .int .i64 (g 10), .int .i64 (g 11), .int .i64 (g 12), .int .i64 (g 13), .int .i64 (g 14), .int .i64 (g 15)] 56 (0, 0)) → W.cell? ⟨w.heap.size, 7, none⟩ = some (.int .i64 (g 7)) := fun W h => cell_heap h rfl
    have ra8 : ∀ W : World, W.heap[w.heap.size]? = some (.cells #[.int .i64 (g 0), .int .i64 (g 1), .int .i64 (g 2), .int .i64 (g 3), .int .i64 (g 4), .int .i64 (g 5), .int .i64 (g 6), .int .i64 (g 7), .int .i64 (g 8), .int .i64 (g 9), .int .i64 (g 10), .int .i64 (g 11), .int .i64 (g 12), .int .i64 (g 13), .int .i64 (g 14), .int .i64 (g 15)] 56 (0, 0)) → W.cell? ⟨w.heap.size, 8, none⟩ = some (.int .i64 (g 8)) := fun W h => cell_heap h rfl
    have ra9 : ∀ W : World, W.heap[w.heap.size]? = some (.cells #[.int .i64 (g 0), .int .i64 (g 1), .int .i64 (g 2), .int .i64 (g 3), .int .i64 (g 4), .int .i64 (g 5), .int .i64 (g 6), .int .i64 (g 7), .int .i64 (g 8), .int .i64 (g 9), .int .i64 (g 10), .int .i64 (g 11), .int .i64 (g 12), .int .i64 (g 13), .int .i64 (g 14), .int .i64 (g 15)] 56 (0, 0)) → W.cell? ⟨w.heap.size, 9, none⟩ = some (.int .i64 (g 9)) := fun W h => cell_heap h rfl
    have ra10 : ∀ W : World, W.heap[w.heap.size]? = some (.cells #[.int .i64 (g 0), .int .i64 (g 1), .int .i64 (g 2), .int .i64 (g 3), .int .i64 (g 4), .int .i64 (g 5), .int .i64 (g 6), .int .i64 (g 7), .int .i64 (g 8), .int .i64 (g 9), .int .i64 (g 10), .int .i64 (g 11), .int .i64 (g 12), .int .i64 (g 13), .int .i64 (g 14), .int .i64 (g 15)] 56 (0, 0)) → W.cell? ⟨w.heap.size, 10, none⟩ = some (.int .i64 (g 10)) := fun W h => cell_heap h rfl
    have ra11 : ∀ W : World, W.heap[w.heap.size]? = some (.cells #[.int .i64 (g 0), .int .i64 (g 1), .int .i64 (g 2), .int .i64 (g 3), .int .i64 (g 4), .int .i64 (g 5), .int .i64 (g 6), .int .i64 (g 7), .int .i64 (g 8), .int .i64 (g 9), .int .i64 (g 10), .int .i64 (g 11), .int .i64 (g 12), .int .i64 (g 13), .int .i64 (g 14), .int .i64 (g 15)] 56 (0, 0)) → W.cell? ⟨w.heap.size, 11, none⟩ = some (.int .i64 (g 11)) := fun W h => cell_heap h rfl
    have ra12 : ∀ W : World, W.heap[w.heap.size]? = some (.cells #[.int .i64 (g 0), .int .i64 (g 1), .int .i64 (g 2), .int .i64 (g 3), .int .i64 (g 4), .int .i64 (g 5), .int .i64 (g 6), .int .i64 (g 7), .int .i64 (g 8), .int .i64 (g 9), .int .i64 (g 10), .int .i64 (g 11), .int .i64 (g 12), .int .i64 (g 13), .int .i64 (g 14), .int .i64 (g 15)] 56 (0, 0)) → W.cell? ⟨w.heap.size, 12, none⟩ = some (.int .i64 (g 12)) := fun W h => cell_heap h rfl
    have ra13 : ∀ W : World, W.heap[w.heap.size]? = some (.cells #[.int .i64 (g 0), .int .i64 (g 1), .int .i64 (g 2), .int .i64 (g 3), .int .i64 (g 4), .int .i64 (g 5), .int .i64 (g 6), .int .i64 (g 7), .int .i64 (g 8), .int .i64 (g 9), .int .i64 (g 10), .int .i64 (g 11), .int .i64 (g 12), .int .i64 (g 13), .int .i64 (g 14), .int .i64 (g 15)] 56 (0, 0)) → W.cell? ⟨w.heap.size, 13, none⟩ = some (.int .i64 (g 13)) := fun W h => cell_heap h rfl
    have ra14 : ∀ W : World, W.heap[w.heap.size]? = some (.cells #[.int .i64 (g 0), .int .i64 (g 1), .int .i64 (g 2), .int .i64 (g 3), .int .i64 (g 4), .int .i64 (g 5), .int .i64 (g 6), .int .i64 (g 7), .int .i64 (g 8), .int .i64 (g 9), .int .i64 (g 10), .int .i64 (g 11), .int .i64 (g 12), .int .i64 (g 13), .int .i64 (g 14), .int .i64 (g 15)] 56 (0, 0)) → W.cell? ⟨w.heap.size, 14, none⟩ = some (.int .i64 (g 14)) := fun W h => cell_heap h rfl
    have ra15 : ∀ W : World, W.heap[w.heap.size]? = some (.cells #[.int .i64 (g 0), .int .i64 (g 1), .int .i64 (g 2), .int .i64 (g 3), .int .i64 (g 4), .int .i64 (g 5), .int .i64 (g 6), .int .i64 (g 7), .int .i64 (g 8), .int .i64 (g 9), .int .i64 (g 10), .int .i64 (g 11), .int .i64 (g 12), .int .i64 (g 13), .int .i64 (g 14), .int .i64 (g 15)] 56 (0, 0)) → W.cell? ⟨w.heap.size, 15, none⟩ = some (.int .i64 (g 15)) := fun W h => cell_heap h rfl
    have rb0 : ∀ W : World, W.heap[w.heap.size + 1]? = some (.cells #[.int .i64 (s 0), .int .i64 (s 1), .int .i64 (s 2)] 58 (0, 0)) → W.cell? ⟨w.heap.size + 1, 0, none⟩ = some (.int .i64 (s 0)) := fun W h => cell_heap h rfl
    have rb1 : ∀ W : World, W.heap[w.heap.size + 1]? = some (.cells #[.int .i64 (s 0), .int .i64 (s 1), .int .i64 (s 2)] 58 (0, 0)) → W.cell? ⟨w.heap.size + 1, 1, none⟩ = some (.int .i64 (s 1)) := fun W h => cell_heap h rfl
    have rb2 : ∀ W : World, W.heap[w.heap.size + 1]? = some (.cells #[.int .i64 (s 0), .int .i64 (s 1), .int .i64 (s 2)] 58 (0, 0)) → W.cell? ⟨w.heap.size + 1, 2, none⟩ = some (.int .i64 (s 2)) := fun W h => cell_heap h rfl
    have rc0 : ∀ W : World, W.heap[w.heap.size + 1 + 1]? = some (.cells #[.int .i64 (b 0), .int .i64 (b 1)] 75 (0, 0)) → W.cell? ⟨w.heap.size + 1 + 1, 0, none⟩ = some (.int .i64 (b 0)) := fun W h => cell_heap h rfl
    have rc1 : ∀ W : World, W.heap[w.heap.size + 1 + 1]? = some (.cells #[.int .i64 (b 0), .int .i64 (b 1)] 75 (0, 0)) → W.cell? ⟨w.heap.size + 1 + 1, 1, none⟩ = some (.int .i64 (b 1)) := fun W h => cell_heap h rfl
    have g0 := block_keep B1.out (lt_of_heap K0.out) K0.out
    have g1 := block_keep B1.out (lt_of_heap K1.out) K1.out
    have g2 := block_keep B1.out (lt_of_heap K2.out) K2.out
    have C0 := Lib.hid g0
    have C1 := Lib.hid g1
    have C2 := Lib.hid g2
    go_region_held3 (fun w' => w'.heap[w.heap.size]? = some (.cells #[.int .i64 (g 0), .int .i64 (g 1), .int .i64 (g 2), .int .i64 (g 3), .int .i64 (g 4), .int .i64 (g 5), .int .i64 (g 6), .int .i64 (g 7), .int .i64 (g 8), .int .i64 (g 9), .int .i64 (g 10), .int .i64 (g 11), .int .i64 (g 12), .int .i64 (g 13), .int .i64 (g 14), .int .i64 (g 15)] 56 (0, 0)) ∧ w'.heap[w.heap.size + 1]? = some (.cells #[.int .i64 (s 0), .int .i64 (s 1), .int .i64 (s 2)] 58 (0, 0)) ∧ w'.heap[w.heap.size + 1 + 1]? = some (.cells #[.int .i64 (b 0), .int .i64 (b 1)] 75 (0, 0)))
      (first | (go_split_ands; refine ⟨?_, ?_, ?_⟩ <;> (first | assumption | exact block_keep (by assumption) (lt_of_heap (by assumption)) (by assumption))))
      (first | (go_at_call 41; refine (own_any _ _ _ _).mono ?_; rintro e w4 ⟨rfl, hq1⟩) | (go_at_call 56; refine (HD.out _).mono ?_; rintro e w5 ⟨rfl, hq2⟩))
    have hq : Below w1.heap.size w1 w5 := below_all ⟨hq1.os, hq1.tape, hq1.output, hq1.size, hq1.block⟩ hq2
    have d0 := block_keep hq (lt_of_heap C0.out) C0.out
    have d1 := block_keep hq (lt_of_heap C1.out) C1.out
    have d2 := block_keep hq (lt_of_heap C2.out) C2.out
    have B5 := Lib.hid (below_all B1.out hq)
    clear hq hq1 hq2 g0 g1 g2 ra0 ra1 ra2 ra3 ra4 ra5 ra6 ra7 ra8 ra9 ra10 ra11 ra12 ra13 ra14 ra15 rb0 rb1 rb2 rc0 rc1
    go_wp2_with (first | (refine wpList_load_blk 56 _ rfl rfl _ rfl 56 _ _ _ d0 Try.underlying56 rfl (by kernel_rfl) ?_) | (refine wpList_load_blk 58 _ rfl rfl _ rfl 58 _ _ _ d1 Try.underlying58 rfl (by kernel_rfl) ?_) | (refine wpList_load_blk 75 _ rfl rfl _ rfl 75 _ _ _ d2 Try.underlying75 rfl (by kernel_rfl) ?_))
    refine (HE.out _).mono ?_
    rintro e w6 ⟨rfl, hb6⟩
    clear d0 d1 d2
    go_wp2_with fail
    refine (alive22 _).mono ?_
    rintro e w7 ⟨rfl, hb7⟩
    go_wp2_with fail
    go_ret
    exact ⟨rfl, below_all (below_all (below_all (below_al (below_al (below_al (Below.refl _ _) _) _) _) B5.out) hb6) hb7⟩

end Go.Proofs.Ythhkcckikmldcaa
