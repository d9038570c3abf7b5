/-
  Breaker: the contract of the document's Index. (Written by gen_br5.py, a program of this session's own.)
-/
import Derived.Test.YthhkcckikmldcaaBr3
set_option linter.unusedVariables false
set_option linter.unusedSimpArgs false
namespace Go.Proofs.Ythhkcckikmldcaa
open Go.RowKit

theorem below_set {w W : World} (h : Below w.heap.size w W) (N j : Nat) (hn : w.heap.size ≤ N) (v : Value) : Below w.heap.size w (W.setCell ⟨N, j, none⟩ v) := Below.setCell h hn v

set_option maxRecDepth 100000 in
set_option maxHeartbeats 4000000 in
theorem refIndex_sh (A : Option Addr) (n c : Nat) (B : Option Addr) (m d : Nat) (x : Nat → Int) (t tick at_ : Int) (u0 u1 : Bool) (L : Int) (w : World) (HL : Hid (∀ W : World, Calls Try.prog 112 #[.agg #[.slice A n c, .slice B m d, .int .i64 (x 0), .int .i64 (x 1), .int .i64 (x 2), .int .i64 (x 3), .int .i64 (x 4), .int .i64 (x 5)], .int .i64 at_] W fun e w' => e = .returned (.int .i64 L) ∧ Below W.heap.size W w')) :
    Calls Try.prog 61 #[.agg #[.slice A n c, .slice B m d, .int .i64 (x 0), .int .i64 (x 1), .int .i64 (x 2), .int .i64 (x 3), .int .i64 (x 4), .int .i64 (x 5)], .agg #[.bool u0, .bool u1, .int .i64 t, .bool true], .int .i64 tick, .int .i64 at_] w fun e w' => e = .returned (.tuple #[.agg #[.bool u0, .bool u1, .int .i64 t, .bool true], .int .i64 0]) ∧ Below w.heap.size w w' := by
  have h0 : (((w.alloc (.cells #[.slice A n c, .slice B m d, .int .i64 (x 0), .int .i64 (x 1), .int .i64 (x 2), .int .i64 (x 3), .int .i64 (x 4), .int .i64 (x 5)] 35)).alloc (.cells #[.bool u0, .bool u1, .int .i64 t, .bool true] 88)).alloc (.cells #[.bool false, .bool false, .int .i64 0, .bool false] 88)).heap[w.heap.size]? = some (.cells #[.slice A n c, .slice B m d, .int .i64 (x 0), .int .i64 (x 1), .int .i64 (x 2), .int .i64 (x 3), .int .i64 (x 4), .int .i64 (x 5)] 35 (0, 0)) := alloc_old _ (alloc_old _ (heap_new _ _))
  have h1 : (((w.alloc (.cells #[.slice A n c, .slice B m d, .int .i64 (x 0), .int .i64 (x 1), .int .i64 (x 2), .int .i64 (x 3), .int .i64 (x 4), .int .i64 (x 5)] 35)).alloc (.cells #[.bool u0, .bool u1, .int .i64 t, .bool true] 88)).alloc (.cells #[.bool false, .bool false, .int .i64 0, .bool false] 88)).heap[w.heap.size + 1]? = some (.cells #[.bool u0, .bool u1, .int .i64 t, .bool true] 88 (0, 0)) := alloc_old _ (alloc_new _ (by simp))
  have h2 : (((w.alloc (.cells #[.slice A n c, .slice B m d, .int .i64 (x 0), .int .i64 (x 1), .int .i64 (x 2), .int .i64 (x 3), .int .i64 (x 4), .int .i64 (x 5)] 35)).alloc (.cells #[.bool u0, .bool u1, .int .i64 t, .bool true] 88)).alloc (.cells #[.bool false, .bool false, .int .i64 0, .bool false] 88)).heap[w.heap.size + 1 + 1]? = some (.cells #[.bool false, .bool false, .int .i64 0, .bool false] 88 (0, 0)) := alloc_new _ (by simp)
  have K0 := Lib.hid h0
  have K1 := Lib.hid h1
  have K2 := Lib.hid h2
  clear h0 h1 h2
  go_enter Try.func61, Try.ntmps61
  go_wp2_with fail
  refine (HL.out _).mono ?_
  rintro e w1 ⟨rfl, hb1⟩
  have g0 := block_keep hb1 (lt_of_heap K0.out) K0.out
  have g1 := block_keep hb1 (lt_of_heap K1.out) K1.out
  have g2 := block_keep hb1 (lt_of_heap K2.out) K2.out
  have B1 := Lib.hid (below_all (below_al (below_al (below_al (Below.refl w.heap.size w) _) _) _) hb1 : Below w.heap.size w w1)
  clear hb1 K0 K1 K2
  have s0 := cell_heap (j := 0) g1 rfl
  have s1 := cell_heap (j := 1) g1 rfl
  have s2 := cell_heap (j := 2) g1 rfl
  have s3 := cell_heap (j := 3) g1 rfl
  have o0 := cell_heap (j := 0) g2 rfl
  have o1 := cell_heap (j := 1) g2 rfl
  have o2 := cell_heap (j := 2) g2 rfl
  have o3 := cell_heap (j := 3) g2 rfl
  have f0 := frozen_pa g2 0
  have f1 := frozen_pa g2 1
  have f2 := frozen_pa g2 2
  have f3 := frozen_pa g2 3
  have q0 := frozen_pa g1 0
  have q1 := frozen_pa g1 1
  have q2 := frozen_pa g1 2
  have q3 := frozen_pa g1 3
  clear g0 g1 g2
  go_wp2_with fail
  exact bodyPost_ret (v := .tuple #[.agg #[.bool u0, .bool u1, .int .i64 t, .bool true], .int .i64 0]) (by simp [results, Try.results61, go_sem, *]) rfl ⟨rfl, by repeat (first | exact B1.out | refine Below.setCell ?_ (by simp <;> omega) _ | refine below_al ?_ _)⟩
set_option maxRecDepth 100000 in
set_option maxHeartbeats 4000000 in
theorem refIndex_l3 (A : Option Addr) (n c : Nat) (B : Option Addr) (m d : Nat) (x : Nat → Int) (t tick at_ : Int) (u0 u1 : Bool) (w : World) (HL : Hid (∀ W : World, Calls Try.prog 112 #[.agg #[.slice A n c, .slice B m d, .int .i64 (x 0), .int .i64 (x 1), .int .i64 (x 2), .int .i64 (x 3), .int .i64 (x 4), .int .i64 (x 5)], .int .i64 at_] W fun e w' => e = .returned (.int .i64 3) ∧ Below W.heap.size W w')) :
    Calls Try.prog 61 #[.agg #[.slice A n c, .slice B m d, .int .i64 (x 0), .int .i64 (x 1), .int .i64 (x 2), .int .i64 (x 3), .int .i64 (x 4), .int .i64 (x 5)], .agg #[.bool u0, .bool u1, .int .i64 t, .bool false], .int .i64 tick, .int .i64 at_] w fun e w' => e = .returned (.tuple #[.agg #[.bool u0, .bool u1, .int .i64 0, .bool true], .int .i64 3]) ∧ Below w.heap.size w w' := by
  have h0 : (((w.alloc (.cells #[.slice A n c, .slice B m d, .int .i64 (x 0), .int .i64 (x 1), .int .i64 (x 2), .int .i64 (x 3), .int .i64 (x 4), .int .i64 (x 5)] 35)).alloc (.cells #[.bool u0, .bool u1, .int .i64 t, .bool false] 88)).alloc (.cells #[.bool false, .bool false, .int .i64 0, .bool false] 88)).heap[w.heap.size]? = some (.cells #[.slice A n c, .slice B m d, .int .i64 (x 0), .int .i64 (x 1), .int .i64 (x 2), .int .i64 (x 3), .int .i64 (x 4), .int .i64 (x 5)] 35 (0, 0)) := alloc_old _ (alloc_old _ (heap_new _ _))
  have h1 : (((w.alloc (.cells #[.slice A n c, .slice B m d, .int .i64 (x 0), .int .i64 (x 1), .int .i64 (x 2), .int .i64 (x 3), .int .i64 (x 4), .int .i64 (x 5)] 35)).alloc (.cells #[.bool u0, .bool u1, .int .i64 t, .bool false] 88)).alloc (.cells #[.bool false, .bool false, .int .i64 0, .bool false] 88)).heap[w.heap.size + 1]? = some (.cells #[.bool u0, .bool u1, .int .i64 t, .bool false] 88 (0, 0)) := alloc_old _ (alloc_new _ (by simp))
  have h2 : (((w.alloc (.cells #[.slice A n c, .slice B m d, .int .i64 (x 0), .int .i64 (x 1), .int .i64 (x 2), .int .i64 (x 3), .int .i64 (x 4), .int .i64 (x 5)] 35)).alloc (.cells #[.bool u0, .bool u1, .int .i64 t, .bool false] 88)).alloc (.cells #[.bool false, .bool false, .int .i64 0, .bool false] 88)).heap[w.heap.size + 1 + 1]? = some (.cells #[.bool false, .bool false, .int .i64 0, .bool false] 88 (0, 0)) := alloc_new _ (by simp)
  have K0 := Lib.hid h0
  have K1 := Lib.hid h1
  have K2 := Lib.hid h2
  clear h0 h1 h2
  go_enter Try.func61, Try.ntmps61
  go_wp2_with fail
  refine (HL.out _).mono ?_
  rintro e w1 ⟨rfl, hb1⟩
  have g0 := block_keep hb1 (lt_of_heap K0.out) K0.out
  have g1 := block_keep hb1 (lt_of_heap K1.out) K1.out
  have g2 := block_keep hb1 (lt_of_heap K2.out) K2.out
  have B1 := Lib.hid (below_all (below_al (below_al (below_al (Below.refl w.heap.size w) _) _) _) hb1 : Below w.heap.size w w1)
  clear hb1 K0 K1 K2
  have s0 := cell_heap (j := 0) g1 rfl
  have s1 := cell_heap (j := 1) g1 rfl
  have s2 := cell_heap (j := 2) g1 rfl
  have s3 := cell_heap (j := 3) g1 rfl
  have o0 := cell_heap (j := 0) g2 rfl
  have o1 := cell_heap (j := 1) g2 rfl
  have o2 := cell_heap (j := 2) g2 rfl
  have o3 := cell_heap (j := 3) g2 rfl
  have f0 := frozen_pa g2 0
  have f1 := frozen_pa g2 1
  have f2 := frozen_pa g2 2
  have f3 := frozen_pa g2 3
  have q0 := frozen_pa g1 0
  have q1 := frozen_pa g1 1
  have q2 := frozen_pa g1 2
  have q3 := frozen_pa g1 3
  clear g0 g1 g2
  go_wp2_with fail
  exact bodyPost_ret (v := .tuple #[.agg #[.bool u0, .bool u1, .int .i64 0, .bool true], .int .i64 3]) (by simp [results, Try.results61, go_sem, *]) rfl ⟨rfl, by repeat (first | exact B1.out | refine Below.setCell ?_ (by simp <;> omega) _ | refine below_al ?_ _)⟩
set_option maxRecDepth 100000 in
set_option maxHeartbeats 4000000 in
theorem refIndex_ha (A : Option Addr) (n c : Nat) (B : Option Addr) (m d : Nat) (x : Nat → Int) (t tick at_ : Int) (u0 u1 : Bool) (L : Int) (h3 : L ≠ 3) (ht : tick < t) (w : World) (HL : Hid (∀ W : World, Calls Try.prog 112 #[.agg #[.slice A n c, .slice B m d, .int .i64 (x 0), .int .i64 (x 1), .int .i64 (x 2), .int .i64 (x 3), .int .i64 (x 4), .int .i64 (x 5)], .int .i64 at_] W fun e w' => e = .returned (.int .i64 L) ∧ Below W.heap.size W w')) :
    Calls Try.prog 61 #[.agg #[.slice A n c, .slice B m d, .int .i64 (x 0), .int .i64 (x 1), .int .i64 (x 2), .int .i64 (x 3), .int .i64 (x 4), .int .i64 (x 5)], .agg #[.bool u0, .bool u1, .int .i64 t, .bool false], .int .i64 tick, .int .i64 at_] w fun e w' => e = .returned (.tuple #[.agg #[.bool u0, .bool u1, .int .i64 t, .bool false], .int .i64 0]) ∧ Below w.heap.size w w' := by
  have h0 : (((w.alloc (.cells #[.slice A n c, .slice B m d, .int .i64 (x 0), .int .i64 (x 1), .int .i64 (x 2), .int .i64 (x 3), .int .i64 (x 4), .int .i64 (x 5)] 35)).alloc (.cells #[.bool u0, .bool u1, .int .i64 t, .bool false] 88)).alloc (.cells #[.bool false, .bool false, .int .i64 0, .bool false] 88)).heap[w.heap.size]? = some (.cells #[.slice A n c, .slice B m d, .int .i64 (x 0), .int .i64 (x 1), .int .i64 (x 2), .int .i64 (x 3), .int .i64 (x 4), .int .i64 (x 5)] 35 (0, 0)) := alloc_old _ (alloc_old _ (heap_new _ _))
  have h1 : (((w.alloc (.cells #[.slice A n c, .slice B m d, .int .i64 (x 0), .int .i64 (x 1), .int .i64 (x 2), .int .i64 (x 3), .int .i64 (x 4), .int .i64 (x 5)] 35)).alloc (.cells #[.bool u0, .bool u1, .int .i64 t, .bool false] 88)).alloc (.cells #[.bool false, .bool false, .int .i64 0, .bool false] 88)).heap[w.heap.size + 1]? = some (.cells #[.bool u0, .bool u1, .int .i64 t, .bool false] 88 (0, 0)) := alloc_old _ (alloc_new _ (by simp))
  have h2 : (((w.alloc (.cells #[.slice A n c, .slice B m d, .int .i64 (x 0), .int .i64 (x 1), .int .i64 (x 2), .int .i64 (x 3), .int .i64 (x 4), .int .i64 (x 5)] 35)).alloc (.cells #[.bool u0, .bool u1, .int .i64 t, .bool false] 88)).alloc (.cells #[.bool false, .bool false, .int .i64 0, .bool false] 88)).heap[w.heap.size + 1 + 1]? = some (.cells #[.bool false, .bool false, .int .i64 0, .bool false] 88 (0, 0)) := alloc_new _ (by simp)
  have K0 := Lib.hid h0
  have K1 := Lib.hid h1
  have K2 := Lib.hid h2
  clear h0 h1 h2
  have hb3 : (L == 3) = false := by simp [h3]
  have HH := Lib.hid (fun W => refHalted_any u0 u1 false t tick W)
  rw [show haltedB t false tick = true by simp [haltedB]; omega] at HH
  go_enter Try.func61, Try.ntmps61
  go_wp2_with fail
  refine (HL.out _).mono ?_
  rintro e w1 ⟨rfl, hb1⟩
  have g0 := block_keep hb1 (lt_of_heap K0.out) K0.out
  have g1 := block_keep hb1 (lt_of_heap K1.out) K1.out
  have g2 := block_keep hb1 (lt_of_heap K2.out) K2.out
  have B1 := Lib.hid (below_all (below_al (below_al (below_al (Below.refl w.heap.size w) _) _) _) hb1 : Below w.heap.size w w1)
  clear hb1 K0 K1 K2
  have s0 := cell_heap (j := 0) g1 rfl
  have s1 := cell_heap (j := 1) g1 rfl
  have s2 := cell_heap (j := 2) g1 rfl
  have s3 := cell_heap (j := 3) g1 rfl
  have G0 := Lib.hid g0
  have G1 := Lib.hid g1
  have G2 := Lib.hid g2
  clear g0 g1 g2
  go_wp2_with fail
  refine (HH.out _).mono ?_
  rintro e w2 ⟨rfl, hb2⟩
  have d0 := block_keep hb2 (lt_of_heap G0.out) G0.out
  have d1 := block_keep hb2 (lt_of_heap G1.out) G1.out
  have d2 := block_keep hb2 (lt_of_heap G2.out) G2.out
  have B2 := Lib.hid (below_all B1.out hb2)
  clear hb2 G0 G1 G2 s0 s1 s2 s3
  have s0 := cell_heap (j := 0) d1 rfl
  have s1 := cell_heap (j := 1) d1 rfl
  have s2 := cell_heap (j := 2) d1 rfl
  have s3 := cell_heap (j := 3) d1 rfl
  have o0 := cell_heap (j := 0) d2 rfl
  have o1 := cell_heap (j := 1) d2 rfl
  have o2 := cell_heap (j := 2) d2 rfl
  have o3 := cell_heap (j := 3) d2 rfl
  have f0 := frozen_pa d2 0
  have f1 := frozen_pa d2 1
  have f2 := frozen_pa d2 2
  have f3 := frozen_pa d2 3
  have q0 := frozen_pa d1 0
  have q1 := frozen_pa d1 1
  have q2 := frozen_pa d1 2
  have q3 := frozen_pa d1 3
  clear d0 d1 d2
  go_wp2_with fail
  exact bodyPost_ret (v := .tuple #[.agg #[.bool u0, .bool u1, .int .i64 t, .bool false], .int .i64 0]) (by simp [results, Try.results61, go_sem, *]) rfl ⟨rfl, by repeat (first | exact B2.out | refine Below.setCell ?_ (by simp <;> omega) _ | refine below_al ?_ _)⟩
set_option maxRecDepth 100000 in
set_option maxHeartbeats 4000000 in
theorem refIndex_hz (A : Option Addr) (n c : Nat) (B : Option Addr) (m d : Nat) (x : Nat → Int) (t tick at_ : Int) (u0 u1 : Bool) (ht : ¬ tick < t) (w : World) (HL : Hid (∀ W : World, Calls Try.prog 112 #[.agg #[.slice A n c, .slice B m d, .int .i64 (x 0), .int .i64 (x 1), .int .i64 (x 2), .int .i64 (x 3), .int .i64 (x 4), .int .i64 (x 5)], .int .i64 at_] W fun e w' => e = .returned (.int .i64 0) ∧ Below W.heap.size W w')) :
    Calls Try.prog 61 #[.agg #[.slice A n c, .slice B m d, .int .i64 (x 0), .int .i64 (x 1), .int .i64 (x 2), .int .i64 (x 3), .int .i64 (x 4), .int .i64 (x 5)], .agg #[.bool u0, .bool u1, .int .i64 t, .bool false], .int .i64 tick, .int .i64 at_] w fun e w' => e = .returned (.tuple #[.agg #[.bool u0, .bool u1, .int .i64 t, .bool false], .int .i64 0]) ∧ Below w.heap.size w w' := by
  have h0 : (((w.alloc (.cells #[.slice A n c, .slice B m d, .int .i64 (x 0), .int .i64 (x 1), .int .i64 (x 2), .int .i64 (x 3), .int .i64 (x 4), .int .i64 (x 5)] 35)).alloc (.cells #[.bool u0, .bool u1, .int .i64 t, .bool false] 88)).alloc (.cells #[.bool false, .bool false, .int .i64 0, .bool false] 88)).heap[w.heap.size]? = some (.cells #[.slice A n c, .slice B m d, .int .i64 (x 0), .int .i64 (x 1), .int .i64 (x 2), .int .i64 (x 3), .int .i64 (x 4), .int .i64 (x 5)] 35 (0, 0)) := alloc_old _ (alloc_old _ (heap_new _ _))
  have h1 : (((w.alloc (.cells #[.slice A n c, .slice B m d, .int .i64 (x 0), .int .i64 (x 1), .int .i64 (x 2), .int .i64 (x 3), .int .i64 (x 4), .int .i64 (x 5)] 35)).alloc (.cells #[.bool u0, .bool u1, .int .i64 t, .bool false] 88)).alloc (.cells #[.bool false, .bool false, .int .i64 0, .bool false] 88)).heap[w.heap.size + 1]? = some (.cells #[.bool u0, .bool u1, .int .i64 t, .bool false] 88 (0, 0)) := alloc_old _ (alloc_new _ (by simp))
  have h2 : (((w.alloc (.cells #[.slice A n c, .slice B m d, .int .i64 (x 0), .int .i64 (x 1), .int .i64 (x 2), .int .i64 (x 3), .int .i64 (x 4), .int .i64 (x 5)] 35)).alloc (.cells #[.bool u0, .bool u1, .int .i64 t, .bool false] 88)).alloc (.cells #[.bool false, .bool false, .int .i64 0, .bool false] 88)).heap[w.heap.size + 1 + 1]? = some (.cells #[.bool false, .bool false, .int .i64 0, .bool false] 88 (0, 0)) := alloc_new _ (by simp)
  have K0 := Lib.hid h0
  have K1 := Lib.hid h1
  have K2 := Lib.hid h2
  clear h0 h1 h2
  have HH := Lib.hid (fun W => refHalted_any u0 u1 false t tick W)
  rw [show haltedB t false tick = false by simp [haltedB]; omega] at HH
  go_enter Try.func61, Try.ntmps61
  go_wp2_with fail
  refine (HL.out _).mono ?_
  rintro e w1 ⟨rfl, hb1⟩
  have g0 := block_keep hb1 (lt_of_heap K0.out) K0.out
  have g1 := block_keep hb1 (lt_of_heap K1.out) K1.out
  have g2 := block_keep hb1 (lt_of_heap K2.out) K2.out
  have B1 := Lib.hid (below_all (below_al (below_al (below_al (Below.refl w.heap.size w) _) _) _) hb1 : Below w.heap.size w w1)
  clear hb1 K0 K1 K2
  have s0 := cell_heap (j := 0) g1 rfl
  have s1 := cell_heap (j := 1) g1 rfl
  have s2 := cell_heap (j := 2) g1 rfl
  have s3 := cell_heap (j := 3) g1 rfl
  have G0 := Lib.hid g0
  have G1 := Lib.hid g1
  have G2 := Lib.hid g2
  clear g0 g1 g2
  go_wp2_with fail
  refine (HH.out _).mono ?_
  rintro e w2 ⟨rfl, hb2⟩
  have d0 := block_keep hb2 (lt_of_heap G0.out) G0.out
  have d1 := block_keep hb2 (lt_of_heap G1.out) G1.out
  have d2 := block_keep hb2 (lt_of_heap G2.out) G2.out
  have B2 := Lib.hid (below_all B1.out hb2)
  clear hb2 G0 G1 G2 s0 s1 s2 s3
  have s0 := cell_heap (j := 0) d1 rfl
  have s1 := cell_heap (j := 1) d1 rfl
  have s2 := cell_heap (j := 2) d1 rfl
  have s3 := cell_heap (j := 3) d1 rfl
  have o0 := cell_heap (j := 0) d2 rfl
  have o1 := cell_heap (j := 1) d2 rfl
  have o2 := cell_heap (j := 2) d2 rfl
  have o3 := cell_heap (j := 3) d2 rfl
  have f0 := frozen_pa d2 0
  have f1 := frozen_pa d2 1
  have f2 := frozen_pa d2 2
  have f3 := frozen_pa d2 3
  have q0 := frozen_pa d1 0
  have q1 := frozen_pa d1 1
  have q2 := frozen_pa d1 2
  have q3 := frozen_pa d1 3
  clear d0 d1 d2
  go_wp2_with fail
  exact bodyPost_ret (v := .tuple #[.agg #[.bool u0, .bool u1, .int .i64 t, .bool false], .int .i64 0]) (by simp [results, Try.results61, go_sem, *]) rfl ⟨rfl, by repeat (first | exact B2.out | refine Below.setCell ?_ (by simp <;> omega) _ | refine below_al ?_ _)⟩
set_option maxRecDepth 100000 in
set_option maxHeartbeats 4000000 in
theorem refIndex_1tt (A : Option Addr) (n c : Nat) (B : Option Addr) (m d : Nat) (x : Nat → Int) (t tick at_ : Int) (ht : ¬ tick < t) (w : World) (HL : Hid (∀ W : World, Calls Try.prog 112 #[.agg #[.slice A n c, .slice B m d, .int .i64 (x 0), .int .i64 (x 1), .int .i64 (x 2), .int .i64 (x 3), .int .i64 (x 4), .int .i64 (x 5)], .int .i64 at_] W fun e w' => e = .returned (.int .i64 1) ∧ Below W.heap.size W w')) :
    Calls Try.prog 61 #[.agg #[.slice A n c, .slice B m d, .int .i64 (x 0), .int .i64 (x 1), .int .i64 (x 2), .int .i64 (x 3), .int .i64 (x 4), .int .i64 (x 5)], .agg #[.bool true, .bool true, .int .i64 t, .bool false], .int .i64 tick, .int .i64 at_] w fun e w' => e = .returned (.tuple #[.agg #[.bool true, .bool true, .int .i64 t, .bool false], .int .i64 0]) ∧ Below w.heap.size w w' := by
  have h0 : (((w.alloc (.cells #[.slice A n c, .slice B m d, .int .i64 (x 0), .int .i64 (x 1), .int .i64 (x 2), .int .i64 (x 3), .int .i64 (x 4), .int .i64 (x 5)] 35)).alloc (.cells #[.bool true, .bool true, .int .i64 t, .bool false] 88)).alloc (.cells #[.bool false, .bool false, .int .i64 0, .bool false] 88)).heap[w.heap.size]? = some (.cells #[.slice A n c, .slice B m d, .int .i64 (x 0), .int .i64 (x 1), .int .i64 (x 2), .int .i64 (x 3), .int .i64 (x 4), .int .i64 (x 5)] 35 (0, 0)) := alloc_old _ (alloc_old _ (heap_new _ _))
  have h1 : (((w.alloc (.cells #[.slice A n c, .slice B m d, .int .i64 (x 0), .int .i64 (x 1), .int .i64 (x 2), .int .i64 (x 3), .int .i64 (x 4), .int .i64 (x 5)] 35)).alloc (.cells #[.bool true, .bool true, .int .i64 t, .bool false] 88)).alloc (.cells #[.bool false, .bool false, .int .i64 0, .bool false] 88)).heap[w.heap.size + 1]? = some (.cells #[.bool true, .bool true, .int .i64 t, .bool false] 88 (0, 0)) := alloc_old _ (alloc_new _ (by simp))
  have h2 : (((w.alloc (.cells #[.slice A n c, .slice B m d, .int .i64 (x 0), .int .i64 (x 1), .int .i64 (x 2), .int .i64 (x 3), .int .i64 (x 4), .int .i64 (x 5)] 35)).alloc (.cells #[.bool true, .bool true, .int .i64 t, .bool false] 88)).alloc (.cells #[.bool false, .bool false, .int .i64 0, .bool false] 88)).heap[w.heap.size + 1 + 1]? = some (.cells #[.bool false, .bool false, .int .i64 0, .bool false] 88 (0, 0)) := alloc_new _ (by simp)
  have K0 := Lib.hid h0
  have K1 := Lib.hid h1
  have K2 := Lib.hid h2
  clear h0 h1 h2
  have HH := Lib.hid (fun W => refHalted_any true true false t tick W)
  rw [show haltedB t false tick = false by simp [haltedB]; omega] at HH
  go_enter Try.func61, Try.ntmps61
  go_wp2_with fail
  refine (HL.out _).mono ?_
  rintro e w1 ⟨rfl, hb1⟩
  have g0 := block_keep hb1 (lt_of_heap K0.out) K0.out
  have g1 := block_keep hb1 (lt_of_heap K1.out) K1.out
  have g2 := block_keep hb1 (lt_of_heap K2.out) K2.out
  have B1 := Lib.hid (below_all (below_al (below_al (below_al (Below.refl w.heap.size w) _) _) _) hb1 : Below w.heap.size w w1)
  clear hb1 K0 K1 K2
  have s0 := cell_heap (j := 0) g1 rfl
  have s1 := cell_heap (j := 1) g1 rfl
  have s2 := cell_heap (j := 2) g1 rfl
  have s3 := cell_heap (j := 3) g1 rfl
  have G0 := Lib.hid g0
  have G1 := Lib.hid g1
  have G2 := Lib.hid g2
  clear g0 g1 g2
  go_wp2_with fail
  refine (HH.out _).mono ?_
  rintro e w2 ⟨rfl, hb2⟩
  have d0 := block_keep hb2 (lt_of_heap G0.out) G0.out
  have d1 := block_keep hb2 (lt_of_heap G1.out) G1.out
  have d2 := block_keep hb2 (lt_of_heap G2.out) G2.out
  have B2 := Lib.hid (below_all B1.out hb2)
  clear hb2 G0 G1 G2 s0 s1 s2 s3
  have s0 := cell_heap (j := 0) d1 rfl
  have s1 := cell_heap (j := 1) d1 rfl
  have s2 := cell_heap (j := 2) d1 rfl
  have s3 := cell_heap (j := 3) d1 rfl
  have o0 := cell_heap (j := 0) d2 rfl
  have o1 := cell_heap (j := 1) d2 rfl
  have o2 := cell_heap (j := 2) d2 rfl
  have o3 := cell_heap (j := 3) d2 rfl
  have f0 := frozen_pa d2 0
  have f1 := frozen_pa d2 1
  have f2 := frozen_pa d2 2
  have f3 := frozen_pa d2 3
  have q0 := frozen_pa d1 0
  have q1 := frozen_pa d1 1
  have q2 := frozen_pa d1 2
  have q3 := frozen_pa d1 3
  clear d0 d1 d2
  go_wp2_with fail
  exact bodyPost_ret (v := .tuple #[.agg #[.bool true, .bool true, .int .i64 t, .bool false], .int .i64 0]) (by simp [results, Try.results61, go_sem, *]) rfl ⟨rfl, by repeat (first | exact B2.out | refine Below.setCell ?_ (by simp <;> omega) _ | refine below_al ?_ _)⟩
set_option maxRecDepth 100000 in
set_option maxHeartbeats 4000000 in
theorem refIndex_1tf (A : Option Addr) (n c : Nat) (B : Option Addr) (m d : Nat) (x : Nat → Int) (t tick at_ : Int) (ht : ¬ tick < t) (w : World) (HL : Hid (∀ W : World, Calls Try.prog 112 #[.agg #[.slice A n c, .slice B m d, .int .i64 (x 0), .int .i64 (x 1), .int .i64 (x 2), .int .i64 (x 3), .int .i64 (x 4), .int .i64 (x 5)], .int .i64 at_] W fun e w' => e = .returned (.int .i64 1) ∧ Below W.heap.size W w')) :
    Calls Try.prog 61 #[.agg #[.slice A n c, .slice B m d, .int .i64 (x 0), .int .i64 (x 1), .int .i64 (x 2), .int .i64 (x 3), .int .i64 (x 4), .int .i64 (x 5)], .agg #[.bool true, .bool false, .int .i64 t, .bool false], .int .i64 tick, .int .i64 at_] w fun e w' => e = .returned (.tuple #[.agg #[.bool true, .bool false, .int .i64 t, .bool false], .int .i64 0]) ∧ Below w.heap.size w w' := by
  have h0 : (((w.alloc (.cells #[.slice A n c, .slice B m d, .int .i64 (x 0), .int .i64 (x 1), .int .i64 (x 2), .int .i64 (x 3), .int .i64 (x 4), .int .i64 (x 5)] 35)).alloc (.cells #[.bool true, .bool false, .int .i64 t, .bool false] 88)).alloc (.cells #[.bool false, .bool false, .int .i64 0, .bool false] 88)).heap[w.heap.size]? = some (.cells #[.slice A n c, .slice B m d, .int .i64 (x 0), .int .i64 (x 1), .int .i64 (x 2), .int .i64 (x 3), .int .i64 (x 4), .int .i64 (x 5)] 35 (0, 0)) := alloc_old _ (alloc_old _ (heap_new _ _))
  have h1 : (((w.alloc (.cells #[.slice A n c, .slice B m d, .int .i64 (x 0), .int .i64 (x 1), .int .i64 (x 2), .int .i64 (x 3), .int .i64 (x 4), .int .i64 (x 5)] 35)).alloc (.cells #[.bool true, .bool false, .int .i64 t, .bool false] 88)).alloc (.cells #[.bool false, .bool false, .int .i64 0, .bool false] 88)).heap[w.heap.size + 1]? = some (.cells #[.bool true, .bool false, .int .i64 t, .bool false] 88 (0, 0)) := alloc_old _ (alloc_new _ (by simp))
  have h2 : (((w.alloc (.cells #[.slice A n c, .slice B m d, .int .i64 (x 0), .int .i64 (x 1), .int .i64 (x 2), .int .i64 (x 3), .int .i64 (x 4), .int .i64 (x 5)] 35)).alloc (.cells #[.bool true, .bool false, .int .i64 t, .bool false] 88)).alloc (.cells #[.bool false, .bool false, .int .i64 0, .bool false] 88)).heap[w.heap.size + 1 + 1]? = some (.cells #[.bool false, .bool false, .int .i64 0, .bool false] 88 (0, 0)) := alloc_new _ (by simp)
  have K0 := Lib.hid h0
  have K1 := Lib.hid h1
  have K2 := Lib.hid h2
  clear h0 h1 h2
  have HH := Lib.hid (fun W => refHalted_any true false false t tick W)
  rw [show haltedB t false tick = false by simp [haltedB]; omega] at HH
  go_enter Try.func61, Try.ntmps61
  go_wp2_with fail
  refine (HL.out _).mono ?_
  rintro e w1 ⟨rfl, hb1⟩
  have g0 := block_keep hb1 (lt_of_heap K0.out) K0.out
  have g1 := block_keep hb1 (lt_of_heap K1.out) K1.out
  have g2 := block_keep hb1 (lt_of_heap K2.out) K2.out
  have B1 := Lib.hid (below_all (below_al (below_al (below_al (Below.refl w.heap.size w) _) _) _) hb1 : Below w.heap.size w w1)
  clear hb1 K0 K1 K2
  have s0 := cell_heap (j := 0) g1 rfl
  have s1 := cell_heap (j := 1) g1 rfl
  have s2 := cell_heap (j := 2) g1 rfl
  have s3 := cell_heap (j := 3) g1 rfl
  have G0 := Lib.hid g0
  have G1 := Lib.hid g1
  have G2 := Lib.hid g2
  clear g0 g1 g2
  go_wp2_with fail
  refine (HH.out _).mono ?_
  rintro e w2 ⟨rfl, hb2⟩
  have d0 := block_keep hb2 (lt_of_heap G0.out) G0.out
  have d1 := block_keep hb2 (lt_of_heap G1.out) G1.out
  have d2 := block_keep hb2 (lt_of_heap G2.out) G2.out
  have B2 := Lib.hid (below_all B1.out hb2)
  clear hb2 G0 G1 G2 s0 s1 s2 s3
  have s0 := cell_heap (j := 0) d1 rfl
  have s1 := cell_heap (j := 1) d1 rfl
  have s2 := cell_heap (j := 2) d1 rfl
  have s3 := cell_heap (j := 3) d1 rfl
  have o0 := cell_heap (j := 0) d2 rfl
  have o1 := cell_heap (j := 1) d2 rfl
  have o2 := cell_heap (j := 2) d2 rfl
  have o3 := cell_heap (j := 3) d2 rfl
  have f0 := frozen_pa d2 0
  have f1 := frozen_pa d2 1
  have f2 := frozen_pa d2 2
  have f3 := frozen_pa d2 3
  have q0 := frozen_pa d1 0
  have q1 := frozen_pa d1 1
  have q2 := frozen_pa d1 2
  have q3 := frozen_pa d1 3
  clear d0 d1 d2
  go_wp2_with fail
  exact bodyPost_ret (v := .tuple #[.agg #[.bool true, .bool false, .int .i64 t, .bool false], .int .i64 0]) (by simp [results, Try.results61, go_sem, *]) rfl ⟨rfl, by repeat (first | exact B2.out | refine Below.setCell ?_ (by simp <;> omega) _ | refine below_al ?_ _)⟩
set_option maxRecDepth 100000 in
set_option maxHeartbeats 4000000 in
theorem refIndex_1ft (A : Option Addr) (n c : Nat) (B : Option Addr) (m d : Nat) (x : Nat → Int) (t tick at_ : Int) (ht : ¬ tick < t) (w : World) (HL : Hid (∀ W : World, Calls Try.prog 112 #[.agg #[.slice A n c, .slice B m d, .int .i64 (x 0), .int .i64 (x 1), .int .i64 (x 2), .int .i64 (x 3), .int .i64 (x 4), .int .i64 (x 5)], .int .i64 at_] W fun e w' => e = .returned (.int .i64 1) ∧ Below W.heap.size W w')) :
    Calls Try.prog 61 #[.agg #[.slice A n c, .slice B m d, .int .i64 (x 0), .int .i64 (x 1), .int .i64 (x 2), .int .i64 (x 3), .int .i64 (x 4), .int .i64 (x 5)], .agg #[.bool false, .bool true, .int .i64 t, .bool false], .int .i64 tick, .int .i64 at_] w fun e w' => e = .returned (.tuple #[.agg #[.bool true, .bool true, .int .i64 (wrap64 (tick + x 4)), .bool false], .int .i64 1]) ∧ Below w.heap.size w w' := by
  have h0 : (((w.alloc (.cells #[.slice A n c, .slice B m d, .int .i64 (x 0), .int .i64 (x 1), .int .i64 (x 2), .int .i64 (x 3), .int .i64 (x 4), .int .i64 (x 5)] 35)).alloc (.cells #[.bool false, .bool true, .int .i64 t, .bool false] 88)).alloc (.cells #[.bool false, .bool false, .int .i64 0, .bool false] 88)).heap[w.heap.size]? = some (.cells #[.slice A n c, .slice B m d, .int .i64 (x 0), .int .i64 (x 1), .int .i64 (x 2), .int .i64 (x 3), .int .i64 (x 4), .int .i64 (x 5)] 35 (0, 0)) := alloc_old _ (alloc_old _ (heap_new _ _))
  have h1 : (((w.alloc (.cells #[.slice A n c, .slice B m d, .int .i64 (x 0), .int .i64 (x 1), .int .i64 (x 2), .int .i64 (x 3), .int .i64 (x 4), .int .i64 (x 5)] 35)).alloc (.cells #[.bool false, .bool true, .int .i64 t, .bool false] 88)).alloc (.cells #[.bool false, .bool false, .int .i64 0, .bool false] 88)).heap[w.heap.size + 1]? = some (.cells #[.bool false, .bool true, .int .i64 t, .bool false] 88 (0, 0)) := alloc_old _ (alloc_new _ (by simp))
  have h2 : (((w.alloc (.cells #[.slice A n c, .slice B m d, .int .i64 (x 0), .int .i64 (x 1), .int .i64 (x 2), .int .i64 (x 3), .int .i64 (x 4), .int .i64 (x 5)] 35)).alloc (.cells #[.bool false, .bool true, .int .i64 t, .bool false] 88)).alloc (.cells #[.bool false, .bool false, .int .i64 0, .bool false] 88)).heap[w.heap.size + 1 + 1]? = some (.cells #[.bool false, .bool false, .int .i64 0, .bool false] 88 (0, 0)) := alloc_new _ (by simp)
  have K0 := Lib.hid h0
  have K1 := Lib.hid h1
  have K2 := Lib.hid h2
  clear h0 h1 h2
  have HH := Lib.hid (fun W => refHalted_any false true false t tick W)
  rw [show haltedB t false tick = false by simp [haltedB]; omega] at HH
  go_enter Try.func61, Try.ntmps61
  go_wp2_with fail
  refine (HL.out _).mono ?_
  rintro e w1 ⟨rfl, hb1⟩
  have g0 := block_keep hb1 (lt_of_heap K0.out) K0.out
  have g1 := block_keep hb1 (lt_of_heap K1.out) K1.out
  have g2 := block_keep hb1 (lt_of_heap K2.out) K2.out
  have B1 := Lib.hid (below_all (below_al (below_al (below_al (Below.refl w.heap.size w) _) _) _) hb1 : Below w.heap.size w w1)
  clear hb1 K0 K1 K2
  have s0 := cell_heap (j := 0) g1 rfl
  have s1 := cell_heap (j := 1) g1 rfl
  have s2 := cell_heap (j := 2) g1 rfl
  have s3 := cell_heap (j := 3) g1 rfl
  have G0 := Lib.hid g0
  have G1 := Lib.hid g1
  have G2 := Lib.hid g2
  clear g0 g1 g2
  go_wp2_with fail
  refine (HH.out _).mono ?_
  rintro e w2 ⟨rfl, hb2⟩
  have d0 := block_keep hb2 (lt_of_heap G0.out) G0.out
  have d1 := block_keep hb2 (lt_of_heap G1.out) G1.out
  have d2 := block_keep hb2 (lt_of_heap G2.out) G2.out
  have B2 := Lib.hid (below_all B1.out hb2)
  clear hb2 G0 G1 G2 s0 s1 s2 s3
  have s0 := cell_heap (j := 0) d1 rfl
  have s1 := cell_heap (j := 1) d1 rfl
  have s2 := cell_heap (j := 2) d1 rfl
  have s3 := cell_heap (j := 3) d1 rfl
  have q0 := frozen_pa d1 0
  have q1 := frozen_pa d1 1
  have q2 := frozen_pa d1 2
  have q3 := frozen_pa d1 3
  have x0 := heap_setOther d0 (show w.heap.size ≠ w.heap.size + 1 by omega) 0 (.bool true)
  have x1 := heap_setSame d1 0 (.bool true)
  have x2 := heap_setOther d2 (show w.heap.size + 1 + 1 ≠ w.heap.size + 1 by omega) 0 (.bool true)
  have X3 := Lib.hid (below_set B2.out (w.heap.size + 1) 0 (Nat.le_succ _) (.bool true))
  have Z1 := Lib.hid x1
  have Z2 := Lib.hid x2
  clear x1 x2
  go_wp2_with (refine wpList_load_blk 35 _ rfl rfl _ rfl 35 _ _ _ x0 Try.underlying35 rfl (by kernel_rfl) ?_)
  refine (refSpan1_any A n c B m d x _).mono ?_
  rintro e w3 ⟨rfl, hb3⟩
  have e1 := block_keep hb3 (lt_of_heap Z1.out) Z1.out
  have e2 := block_keep hb3 (lt_of_heap Z2.out) Z2.out
  have B3 := Lib.hid (below_all X3.out hb3)
  clear hb3 d0 d1 d2 s0 s1 s2 s3 q0 q1 q2 q3 x0
  have s0 := cell_heap (j := 0) e1 rfl
  have s1 := cell_heap (j := 1) e1 rfl
  have s2 := cell_heap (j := 2) e1 rfl
  have s3 := cell_heap (j := 3) e1 rfl
  have o0 := cell_heap (j := 0) e2 rfl
  have o1 := cell_heap (j := 1) e2 rfl
  have o2 := cell_heap (j := 2) e2 rfl
  have o3 := cell_heap (j := 3) e2 rfl
  have f0 := frozen_pa e2 0
  have f1 := frozen_pa e2 1
  have f2 := frozen_pa e2 2
  have f3 := frozen_pa e2 3
  have q0 := frozen_pa e1 0
  have q1 := frozen_pa e1 1
  have q2 := frozen_pa e1 2
  have q3 := frozen_pa e1 3
  clear e1 e2
  go_wp2_with fail
  exact bodyPost_ret (v := .tuple #[.agg #[.bool true, .bool true, .int .i64 (wrap64 (tick + x 4)), .bool false], .int .i64 1]) (by simp [results, Try.results61, go_sem, *]) rfl ⟨rfl, by repeat (first | exact B3.out | refine Below.setCell ?_ (by simp <;> omega) _ | refine below_al ?_ _)⟩
set_option maxRecDepth 100000 in
set_option maxHeartbeats 4000000 in
theorem refIndex_1ff (A : Option Addr) (n c : Nat) (B : Option Addr) (m d : Nat) (x : Nat → Int) (t tick at_ : Int) (ht : ¬ tick < t) (w : World) (HL : Hid (∀ W : World, Calls Try.prog 112 #[.agg #[.slice A n c, .slice B m d, .int .i64 (x 0), .int .i64 (x 1), .int .i64 (x 2), .int .i64 (x 3), .int .i64 (x 4), .int .i64 (x 5)], .int .i64 at_] W fun e w' => e = .returned (.int .i64 1) ∧ Below W.heap.size W w')) :
    Calls Try.prog 61 #[.agg #[.slice A n c, .slice B m d, .int .i64 (x 0), .int .i64 (x 1), .int .i64 (x 2), .int .i64 (x 3), .int .i64 (x 4), .int .i64 (x 5)], .agg #[.bool false, .bool false, .int .i64 t, .bool false], .int .i64 tick, .int .i64 at_] w fun e w' => e = .returned (.tuple #[.agg #[.bool true, .bool false, .int .i64 (wrap64 (tick + x 4)), .bool false], .int .i64 1]) ∧ Below w.heap.size w w' := by
  have h0 : (((w.alloc (.cells #[.slice A n c, .slice B m d, .int .i64 (x 0), .int .i64 (x 1), .int .i64 (x 2), .int .i64 (x 3), .int .i64 (x 4), .int .i64 (x 5)] 35)).alloc (.cells #[.bool false, .bool false, .int .i64 t, .bool false] 88)).alloc (.cells #[.bool false, .bool false, .int .i64 0, .bool false] 88)).heap[w.heap.size]? = some (.cells #[.slice A n c, .slice B m d, .int .i64 (x 0), .int .i64 (x 1), .int .i64 (x 2), .int .i64 (x 3), .int .i64 (x 4), .int .i64 (x 5)] 35 (0, 0)) := alloc_old _ (alloc_old _ (heap_new _ _))
  have h1 : (((w.alloc (.cells #[.slice A n c, .slice B m d, .int .i64 (x 0), .int .i64 (x 1), .int .i64 (x 2), .int .i64 (x 3), .int .i64 (x 4), .int .i64 (x 5)] 35)).alloc (.cells #[.bool false, .bool false, .int .i64 t, .bool false] 88)).alloc (.cells #[.bool false, .bool false, .int .i64 0, .bool false] 88)).heap[w.heap.size + 1]? = some (.cells #[.bool false, .bool false, .int .i64 t, .bool false] 88 (0, 0)) := alloc_old _ (alloc_new _ (by simp))
  have h2 : (((w.alloc (.cells #[.slice A n c, .slice B m d, .int .i64 (x 0), .int .i64 (x 1), .int .i64 (x 2), .int .i64 (x 3), .int .i64 (x 4), .int .i64 (x 5)] 35)).alloc (.cells #[.bool false, .bool false, .int .i64 t, .bool false] 88)).alloc (.cells #[.bool false, .bool false, .int .i64 0, .bool false] 88)).heap[w.heap.size + 1 + 1]? = some (.cells #[.bool false, .bool false, .int .i64 0, .bool false] 88 (0, 0)) := alloc_new _ (by simp)
  have K0 := Lib.hid h0
  have K1 := Lib.hid h1
  have K2 := Lib.hid h2
  clear h0 h1 h2
  have HH := Lib.hid (fun W => refHalted_any false false false t tick W)
  rw [show haltedB t false tick = false by simp [haltedB]; omega] at HH
  go_enter Try.func61, Try.ntmps61
  go_wp2_with fail
  refine (HL.out _).mono ?_
  rintro e w1 ⟨rfl, hb1⟩
  have g0 := block_keep hb1 (lt_of_heap K0.out) K0.out
  have g1 := block_keep hb1 (lt_of_heap K1.out) K1.out
  have g2 := block_keep hb1 (lt_of_heap K2.out) K2.out
  have B1 := Lib.hid (below_all (below_al (below_al (below_al (Below.refl w.heap.size w) _) _) _) hb1 : Below w.heap.size w w1)
  clear hb1 K0 K1 K2
  have s0 := cell_heap (j := 0) g1 rfl
  have s1 := cell_heap (j := 1) g1 rfl
  have s2 := cell_heap (j := 2) g1 rfl
  have s3 := cell_heap (j := 3) g1 rfl
  have G0 := Lib.hid g0
  have G1 := Lib.hid g1
  have G2 := Lib.hid g2
  clear g0 g1 g2
  go_wp2_with fail
  refine (HH.out _).mono ?_
  rintro e w2 ⟨rfl, hb2⟩
  have d0 := block_keep hb2 (lt_of_heap G0.out) G0.out
  have d1 := block_keep hb2 (lt_of_heap G1.out) G1.out
  have d2 := block_keep hb2 (lt_of_heap G2.out) G2.out
  have B2 := Lib.hid (below_all B1.out hb2)
  clear hb2 G0 G1 G2 s0 s1 s2 s3
  have s0 := cell_heap (j := 0) d1 rfl
  have s1 := cell_heap (j := 1) d1 rfl
  have s2 := cell_heap (j := 2) d1 rfl
  have s3 := cell_heap (j := 3) d1 rfl
  have q0 := frozen_pa d1 0
  have q1 := frozen_pa d1 1
  have q2 := frozen_pa d1 2
  have q3 := frozen_pa d1 3
  have x0 := heap_setOther d0 (show w.heap.size ≠ w.heap.size + 1 by omega) 0 (.bool true)
  have x1 := heap_setSame d1 0 (.bool true)
  have x2 := heap_setOther d2 (show w.heap.size + 1 + 1 ≠ w.heap.size + 1 by omega) 0 (.bool true)
  have X3 := Lib.hid (below_set B2.out (w.heap.size + 1) 0 (Nat.le_succ _) (.bool true))
  have Z1 := Lib.hid x1
  have Z2 := Lib.hid x2
  clear x1 x2
  go_wp2_with (refine wpList_load_blk 35 _ rfl rfl _ rfl 35 _ _ _ x0 Try.underlying35 rfl (by kernel_rfl) ?_)
  refine (refSpan1_any A n c B m d x _).mono ?_
  rintro e w3 ⟨rfl, hb3⟩
  have e1 := block_keep hb3 (lt_of_heap Z1.out) Z1.out
  have e2 := block_keep hb3 (lt_of_heap Z2.out) Z2.out
  have B3 := Lib.hid (below_all X3.out hb3)
  clear hb3 d0 d1 d2 s0 s1 s2 s3 q0 q1 q2 q3 x0
  have s0 := cell_heap (j := 0) e1 rfl
  have s1 := cell_heap (j := 1) e1 rfl
  have s2 := cell_heap (j := 2) e1 rfl
  have s3 := cell_heap (j := 3) e1 rfl
  have o0 := cell_heap (j := 0) e2 rfl
  have o1 := cell_heap (j := 1) e2 rfl
  have o2 := cell_heap (j := 2) e2 rfl
  have o3 := cell_heap (j := 3) e2 rfl
  have f0 := frozen_pa e2 0
  have f1 := frozen_pa e2 1
  have f2 := frozen_pa e2 2
  have f3 := frozen_pa e2 3
  have q0 := frozen_pa e1 0
  have q1 := frozen_pa e1 1
  have q2 := frozen_pa e1 2
  have q3 := frozen_pa e1 3
  clear e1 e2
  go_wp2_with fail
  exact bodyPost_ret (v := .tuple #[.agg #[.bool true, .bool false, .int .i64 (wrap64 (tick + x 4)), .bool false], .int .i64 1]) (by simp [results, Try.results61, go_sem, *]) rfl ⟨rfl, by repeat (first | exact B3.out | refine Below.setCell ?_ (by simp <;> omega) _ | refine below_al ?_ _)⟩
set_option maxRecDepth 100000 in
set_option maxHeartbeats 4000000 in
theorem refIndex_2tt (A : Option Addr) (n c : Nat) (B : Option Addr) (m d : Nat) (x : Nat → Int) (t tick at_ : Int) (ht : ¬ tick < t) (w : World) (HL : Hid (∀ W : World, Calls Try.prog 112 #[.agg #[.slice A n c, .slice B m d, .int .i64 (x 0), .int .i64 (x 1), .int .i64 (x 2), .int .i64 (x 3), .int .i64 (x 4), .int .i64 (x 5)], .int .i64 at_] W fun e w' => e = .returned (.int .i64 2) ∧ Below W.heap.size W w')) :
    Calls Try.prog 61 #[.agg #[.slice A n c, .slice B m d, .int .i64 (x 0), .int .i64 (x 1), .int .i64 (x 2), .int .i64 (x 3), .int .i64 (x 4), .int .i64 (x 5)], .agg #[.bool true, .bool true, .int .i64 t, .bool false], .int .i64 tick, .int .i64 at_] w fun e w' => e = .returned (.tuple #[.agg #[.bool true, .bool true, .int .i64 t, .bool false], .int .i64 0]) ∧ Below w.heap.size w w' := by
  have h0 : (((w.alloc (.cells #[.slice A n c, .slice B m d, .int .i64 (x 0), .int .i64 (x 1), .int .i64 (x 2), .int .i64 (x 3), .int .i64 (x 4), .int .i64 (x 5)] 35)).alloc (.cells #[.bool true, .bool true, .int .i64 t, .bool false] 88)).alloc (.cells #[.bool false, .bool false, .int .i64 0, .bool false] 88)).heap[w.heap.size]? = some (.cells #[.slice A n c, .slice B m d, .int .i64 (x 0), .int .i64 (x 1), .int .i64 (x 2), .int .i64 (x 3), .int .i64 (x 4), .int .i64 (x 5)] 35 (0, 0)) := alloc_old _ (alloc_old _ (heap_new _ _))
  have h1 : (((w.alloc (.cells #[.slice A n c, .slice B m d, .int .i64 (x 0), .int .i64 (x 1), .int .i64 (x 2), .int .i64 (x 3), .int .i64 (x 4), .int .i64 (x 5)] 35)).alloc (.cells #[.bool true, .bool true, .int .i64 t, .bool false] 88)).alloc (.cells #[.bool false, .bool false, .int .i64 0, .bool false] 88)).heap[w.heap.size + 1]? = some (.cells #[.bool true, .bool true, .int .i64 t, .bool false] 88 (0, 0)) := alloc_old _ (alloc_new _ (by simp))
  have h2 : (((w.alloc (.cells #[.slice A n c, .slice B m d, .int .i64 (x 0), .int .i64 (x 1), .int .i64 (x 2), .int .i64 (x 3), .int .i64 (x 4), .int .i64 (x 5)] 35)).alloc (.cells #[.bool true, .bool true, .int .i64 t, .bool false] 88)).alloc (.cells #[.bool false, .bool false, .int .i64 0, .bool false] 88)).heap[w.heap.size + 1 + 1]? = some (.cells #[.bool false, .bool false, .int .i64 0, .bool false] 88 (0, 0)) := alloc_new _ (by simp)
  have K0 := Lib.hid h0
  have K1 := Lib.hid h1
  have K2 := Lib.hid h2
  clear h0 h1 h2
  have HH := Lib.hid (fun W => refHalted_any true true false t tick W)
  rw [show haltedB t false tick = false by simp [haltedB]; omega] at HH
  go_enter Try.func61, Try.ntmps61
  go_wp2_with fail
  refine (HL.out _).mono ?_
  rintro e w1 ⟨rfl, hb1⟩
  have g0 := block_keep hb1 (lt_of_heap K0.out) K0.out
  have g1 := block_keep hb1 (lt_of_heap K1.out) K1.out
  have g2 := block_keep hb1 (lt_of_heap K2.out) K2.out
  have B1 := Lib.hid (below_all (below_al (below_al (below_al (Below.refl w.heap.size w) _) _) _) hb1 : Below w.heap.size w w1)
  clear hb1 K0 K1 K2
  have s0 := cell_heap (j := 0) g1 rfl
  have s1 := cell_heap (j := 1) g1 rfl
  have s2 := cell_heap (j := 2) g1 rfl
  have s3 := cell_heap (j := 3) g1 rfl
  have G0 := Lib.hid g0
  have G1 := Lib.hid g1
  have G2 := Lib.hid g2
  clear g0 g1 g2
  go_wp2_with fail
  refine (HH.out _).mono ?_
  rintro e w2 ⟨rfl, hb2⟩
  have d0 := block_keep hb2 (lt_of_heap G0.out) G0.out
  have d1 := block_keep hb2 (lt_of_heap G1.out) G1.out
  have d2 := block_keep hb2 (lt_of_heap G2.out) G2.out
  have B2 := Lib.hid (below_all B1.out hb2)
  clear hb2 G0 G1 G2 s0 s1 s2 s3
  have s0 := cell_heap (j := 0) d1 rfl
  have s1 := cell_heap (j := 1) d1 rfl
  have s2 := cell_heap (j := 2) d1 rfl
  have s3 := cell_heap (j := 3) d1 rfl
  have o0 := cell_heap (j := 0) d2 rfl
  have o1 := cell_heap (j := 1) d2 rfl
  have o2 := cell_heap (j := 2) d2 rfl
  have o3 := cell_heap (j := 3) d2 rfl
  have f0 := frozen_pa d2 0
  have f1 := frozen_pa d2 1
  have f2 := frozen_pa d2 2
  have f3 := frozen_pa d2 3
  have q0 := frozen_pa d1 0
  have q1 := frozen_pa d1 1
  have q2 := frozen_pa d1 2
  have q3 := frozen_pa d1 3
  clear d0 d1 d2
  go_wp2_with fail
  exact bodyPost_ret (v := .tuple #[.agg #[.bool true, .bool true, .int .i64 t, .bool false], .int .i64 0]) (by simp [results, Try.results61, go_sem, *]) rfl ⟨rfl, by repeat (first | exact B2.out | refine Below.setCell ?_ (by simp <;> omega) _ | refine below_al ?_ _)⟩
set_option maxRecDepth 100000 in
set_option maxHeartbeats 4000000 in
theorem refIndex_2tf (A : Option Addr) (n c : Nat) (B : Option Addr) (m d : Nat) (x : Nat → Int) (t tick at_ : Int) (ht : ¬ tick < t) (w : World) (HL : Hid (∀ W : World, Calls Try.prog 112 #[.agg #[.slice A n c, .slice B m d, .int .i64 (x 0), .int .i64 (x 1), .int .i64 (x 2), .int .i64 (x 3), .int .i64 (x 4), .int .i64 (x 5)], .int .i64 at_] W fun e w' => e = .returned (.int .i64 2) ∧ Below W.heap.size W w')) :
    Calls Try.prog 61 #[.agg #[.slice A n c, .slice B m d, .int .i64 (x 0), .int .i64 (x 1), .int .i64 (x 2), .int .i64 (x 3), .int .i64 (x 4), .int .i64 (x 5)], .agg #[.bool true, .bool false, .int .i64 t, .bool false], .int .i64 tick, .int .i64 at_] w fun e w' => e = .returned (.tuple #[.agg #[.bool true, .bool true, .int .i64 (wrap64 (tick + x 5)), .bool false], .int .i64 2]) ∧ Below w.heap.size w w' := by
  have h0 : (((w.alloc (.cells #[.slice A n c, .slice B m d, .int .i64 (x 0), .int .i64 (x 1), .int .i64 (x 2), .int .i64 (x 3), .int .i64 (x 4), .int .i64 (x 5)] 35)).alloc (.cells #[.bool true, .bool false, .int .i64 t, .bool false] 88)).alloc (.cells #[.bool false, .bool false, .int .i64 0, .bool false] 88)).heap[w.heap.size]? = some (.cells #[.slice A n c, .slice B m d, .int .i64 (x 0), .int .i64 (x 1), .int .i64 (x 2), .int .i64 (x 3), .int .i64 (x 4), .int .i64 (x 5)] 35 (0, 0)) := alloc_old _ (alloc_old _ (heap_new _ _))
  have h1 : (((w.alloc (.cells #[.slice A n c, .slice B m d, .int .i64 (x 0), .int .i64 (x 1), .int .i64 (x 2), .int .i64 (x 3), .int .i64 (x 4), .int .i64 (x 5)] 35)).alloc (.cells #[.bool true, .bool false, .int .i64 t, .bool false] 88)).alloc (.cells #[.bool false, .bool false, .int .i64 0, .bool false] 88)).heap[w.heap.size + 1]? = some (.cells #[.bool true, .bool false, .int .i64 t, .bool false] 88 (0, 0)) := alloc_old _ (alloc_new _ (by simp))
  have h2 : (((w.alloc (.cells #[.slice A n c, .slice B m d, .int .i64 (x 0), .int .i64 (x 1), .int .i64 (x 2), .int .i64 (x 3), .int .i64 (x 4), .int .i64 (x 5)] 35)).alloc (.cells #[.bool true, .bool false, .int .i64 t, .bool false] 88)).alloc (.cells #[.bool false, .bool false, .int .i64 0, .bool false] 88)).heap[w.heap.size + 1 + 1]? = some (.cells #[.bool false, .bool false, .int .i64 0, .bool false] 88 (0, 0)) := alloc_new _ (by simp)
  have K0 := Lib.hid h0
  have K1 := Lib.hid h1
  have K2 := Lib.hid h2
  clear h0 h1 h2
  have HH := Lib.hid (fun W => refHalted_any true false false t tick W)
  rw [show haltedB t false tick = false by simp [haltedB]; omega] at HH
  go_enter Try.func61, Try.ntmps61
  go_wp2_with fail
  refine (HL.out _).mono ?_
  rintro e w1 ⟨rfl, hb1⟩
  have g0 := block_keep hb1 (lt_of_heap K0.out) K0.out
  have g1 := block_keep hb1 (lt_of_heap K1.out) K1.out
  have g2 := block_keep hb1 (lt_of_heap K2.out) K2.out
  have B1 := Lib.hid (below_all (below_al (below_al (below_al (Below.refl w.heap.size w) _) _) _) hb1 : Below w.heap.size w w1)
  clear hb1 K0 K1 K2
  have s0 := cell_heap (j := 0) g1 rfl
  have s1 := cell_heap (j := 1) g1 rfl
  have s2 := cell_heap (j := 2) g1 rfl
  have s3 := cell_heap (j := 3) g1 rfl
  have G0 := Lib.hid g0
  have G1 := Lib.hid g1
  have G2 := Lib.hid g2
  clear g0 g1 g2
  go_wp2_with fail
  refine (HH.out _).mono ?_
  rintro e w2 ⟨rfl, hb2⟩
  have d0 := block_keep hb2 (lt_of_heap G0.out) G0.out
  have d1 := block_keep hb2 (lt_of_heap G1.out) G1.out
  have d2 := block_keep hb2 (lt_of_heap G2.out) G2.out
  have B2 := Lib.hid (below_all B1.out hb2)
  clear hb2 G0 G1 G2 s0 s1 s2 s3
  have s0 := cell_heap (j := 0) d1 rfl
  have s1 := cell_heap (j := 1) d1 rfl
  have s2 := cell_heap (j := 2) d1 rfl
  have s3 := cell_heap (j := 3) d1 rfl
  have q0 := frozen_pa d1 0
  have q1 := frozen_pa d1 1
  have q2 := frozen_pa d1 2
  have q3 := frozen_pa d1 3
  have x0 := heap_setOther d0 (show w.heap.size ≠ w.heap.size + 1 by omega) 0 (.bool true)
  have x1 := heap_setSame d1 0 (.bool true)
  have x2 := heap_setOther d2 (show w.heap.size + 1 + 1 ≠ w.heap.size + 1 by omega) 0 (.bool true)
  have X3 := Lib.hid (below_set B2.out (w.heap.size + 1) 0 (Nat.le_succ _) (.bool true))
  have y0 := heap_setOther x0 (show w.heap.size ≠ w.heap.size + 1 by omega) 1 (.bool true)
  have y1 := heap_setSame x1 1 (.bool true)
  have y2 := heap_setOther x2 (show w.heap.size + 1 + 1 ≠ w.heap.size + 1 by omega) 1 (.bool true)
  have Y3 := Lib.hid (below_set X3.out (w.heap.size + 1) 1 (Nat.le_succ _) (.bool true))
  have Z1 := Lib.hid y1
  have Z2 := Lib.hid y2
  clear x0 x1 x2 y1 y2
  go_wp2_with (refine wpList_load_blk 35 _ rfl rfl _ rfl 35 _ _ _ y0 Try.underlying35 rfl (by kernel_rfl) ?_)
  refine (refSpan2_any A n c B m d x _).mono ?_
  rintro e w3 ⟨rfl, hb3⟩
  have e1 := block_keep hb3 (lt_of_heap Z1.out) Z1.out
  have e2 := block_keep hb3 (lt_of_heap Z2.out) Z2.out
  have B3 := Lib.hid (below_all Y3.out hb3)
  clear hb3 d0 d1 d2 s0 s1 s2 s3 q0 q1 q2 q3 y0
  have s0 := cell_heap (j := 0) e1 rfl
  have s1 := cell_heap (j := 1) e1 rfl
  have s2 := cell_heap (j := 2) e1 rfl
  have s3 := cell_heap (j := 3) e1 rfl
  have o0 := cell_heap (j := 0) e2 rfl
  have o1 := cell_heap (j := 1) e2 rfl
  have o2 := cell_heap (j := 2) e2 rfl
  have o3 := cell_heap (j := 3) e2 rfl
  have f0 := frozen_pa e2 0
  have f1 := frozen_pa e2 1
  have f2 := frozen_pa e2 2
  have f3 := frozen_pa e2 3
  have q0 := frozen_pa e1 0
  have q1 := frozen_pa e1 1
  have q2 := frozen_pa e1 2
  have q3 := frozen_pa e1 3
  clear e1 e2
  go_wp2_with fail
  exact bodyPost_ret (v := .tuple #[.agg #[.bool true, .bool true, .int .i64 (wrap64 (tick + x 5)), .bool false], .int .i64 2]) (by simp [results, Try.results61, go_sem, *]) rfl ⟨rfl, by repeat (first | exact B3.out | refine Below.setCell ?_ (by simp <;> omega) _ | refine below_al ?_ _)⟩
set_option maxRecDepth 100000 in
set_option maxHeartbeats 4000000 in
theorem refIndex_2ft (A : Option Addr) (n c : Nat) (B : Option Addr) (m d : Nat) (x : Nat → Int) (t tick at_ : Int) (ht : ¬ tick < t) (w : World) (HL : Hid (∀ W : World, Calls Try.prog 112 #[.agg #[.slice A n c, .slice B m d, .int .i64 (x 0), .int .i64 (x 1), .int .i64 (x 2), .int .i64 (x 3), .int .i64 (x 4), .int .i64 (x 5)], .int .i64 at_] W fun e w' => e = .returned (.int .i64 2) ∧ Below W.heap.size W w')) :
    Calls Try.prog 61 #[.agg #[.slice A n c, .slice B m d, .int .i64 (x 0), .int .i64 (x 1), .int .i64 (x 2), .int .i64 (x 3), .int .i64 (x 4), .int .i64 (x 5)], .agg #[.bool false, .bool true, .int .i64 t, .bool false], .int .i64 tick, .int .i64 at_] w fun e w' => e = .returned (.tuple #[.agg #[.bool true, .bool true, .int .i64 (wrap64 (tick + x 4)), .bool false], .int .i64 1]) ∧ Below w.heap.size w w' := by
  have h0 : (((w.alloc (.cells #[.slice A n c, .slice B m d, .int .i64 (x 0), .int .i64 (x 1), .int .i64 (x 2), .int .i64 (x 3), .int .i64 (x 4), .int .i64 (x 5)] 35)).alloc (.cells #[.bool false, .bool true, .int .i64 t, .bool false] 88)).alloc (.cells #[.bool false, .bool false, .int .i64 0, .bool false] 88)).heap[w.heap.size]? = some (.cells #[.slice A n c, .slice B m d, .int .i64 (x 0), .int .i64 (x 1), .int .i64 (x 2), .int .i64 (x 3), .int .i64 (x 4), .int .i64 (x 5)] 35 (0, 0)) := alloc_old _ (alloc_old _ (heap_new _ _))
  have h1 : (((w.alloc (.cells #[.slice A n c, .slice B m d, .int .i64 (x 0), .int .i64 (x 1), .int .i64 (x 2), .int .i64 (x 3), .int .i64 (x 4), .int .i64 (x 5)] 35)).alloc (.cells #[.bool false, .bool true, .int .i64 t, .bool false] 88)).alloc (.cells #[.bool false, .bool false, .int .i64 0, .bool false] 88)).heap[w.heap.size + 1]? = some (.cells #[.bool false, .bool true, .int .i64 t, .bool false] 88 (0, 0)) := alloc_old _ (alloc_new _ (by simp))
  have h2 : (((w.alloc (.cells #[.slice A n c, .slice B m d, .int .i64 (x 0), .int .i64 (x 1), .int .i64 (x 2), .int .i64 (x 3), .int .i64 (x 4), .int .i64 (x 5)] 35)).alloc (.cells #[.bool false, .bool true, .int .i64 t, .bool false] 88)).alloc (.cells #[.bool false, .bool false, .int .i64 0, .bool false] 88)).heap[w.heap.size + 1 + 1]? = some (.cells #[.bool false, .bool false, .int .i64 0, .bool false] 88 (0, 0)) := alloc_new _ (by simp)
  have K0 := Lib.hid h0
  have K1 := Lib.hid h1
  have K2 := Lib.hid h2
  clear h0 h1 h2
  have HH := Lib.hid (fun W => refHalted_any false true false t tick W)
  rw [show haltedB t false tick = false by simp [haltedB]; omega] at HH
  go_enter Try.func61, Try.ntmps61
  go_wp2_with fail
  refine (HL.out _).mono ?_
  rintro e w1 ⟨rfl, hb1⟩
  have g0 := block_keep hb1 (lt_of_heap K0.out) K0.out
  have g1 := block_keep hb1 (lt_of_heap K1.out) K1.out
  have g2 := block_keep hb1 (lt_of_heap K2.out) K2.out
  have B1 := Lib.hid (below_all (below_al (below_al (below_al (Below.refl w.heap.size w) _) _) _) hb1 : Below w.heap.size w w1)
  clear hb1 K0 K1 K2
  have s0 := cell_heap (j := 0) g1 rfl
  have s1 := cell_heap (j := 1) g1 rfl
  have s2 := cell_heap (j := 2) g1 rfl
  have s3 := cell_heap (j := 3) g1 rfl
  have G0 := Lib.hid g0
  have G1 := Lib.hid g1
  have G2 := Lib.hid g2
  clear g0 g1 g2
  go_wp2_with fail
  refine (HH.out _).mono ?_
  rintro e w2 ⟨rfl, hb2⟩
  have d0 := block_keep hb2 (lt_of_heap G0.out) G0.out
  have d1 := block_keep hb2 (lt_of_heap G1.out) G1.out
  have d2 := block_keep hb2 (lt_of_heap G2.out) G2.out
  have B2 := Lib.hid (below_all B1.out hb2)
  clear hb2 G0 G1 G2 s0 s1 s2 s3
  have s0 := cell_heap (j := 0) d1 rfl
  have s1 := cell_heap (j := 1) d1 rfl
  have s2 := cell_heap (j := 2) d1 rfl
  have s3 := cell_heap (j := 3) d1 rfl
  have q0 := frozen_pa d1 0
  have q1 := frozen_pa d1 1
  have q2 := frozen_pa d1 2
  have q3 := frozen_pa d1 3
  have x0 := heap_setOther d0 (show w.heap.size ≠ w.heap.size + 1 by omega) 0 (.bool true)
  have x1 := heap_setSame d1 0 (.bool true)
  have x2 := heap_setOther d2 (show w.heap.size + 1 + 1 ≠ w.heap.size + 1 by omega) 0 (.bool true)
  have X3 := Lib.hid (below_set B2.out (w.heap.size + 1) 0 (Nat.le_succ _) (.bool true))
  have Z1 := Lib.hid x1
  have Z2 := Lib.hid x2
  clear x1 x2
  go_wp2_with (refine wpList_load_blk 35 _ rfl rfl _ rfl 35 _ _ _ x0 Try.underlying35 rfl (by kernel_rfl) ?_)
  refine (refSpan1_any A n c B m d x _).mono ?_
  rintro e w3 ⟨rfl, hb3⟩
  have e1 := block_keep hb3 (lt_of_heap Z1.out) Z1.out
  have e2 := block_keep hb3 (lt_of_heap Z2.out) Z2.out
  have B3 := Lib.hid (below_all X3.out hb3)
  clear hb3 d0 d1 d2 s0 s1 s2 s3 q0 q1 q2 q3 x0
  have s0 := cell_heap (j := 0) e1 rfl
  have s1 := cell_heap (j := 1) e1 rfl
  have s2 := cell_heap (j := 2) e1 rfl
  have s3 := cell_heap (j := 3) e1 rfl
  have o0 := cell_heap (j := 0) e2 rfl
  have o1 := cell_heap (j := 1) e2 rfl
  have o2 := cell_heap (j := 2) e2 rfl
  have o3 := cell_heap (j := 3) e2 rfl
  have f0 := frozen_pa e2 0
  have f1 := frozen_pa e2 1
  have f2 := frozen_pa e2 2
  have f3 := frozen_pa e2 3
  have q0 := frozen_pa e1 0
  have q1 := frozen_pa e1 1
  have q2 := frozen_pa e1 2
  have q3 := frozen_pa e1 3
  clear e1 e2
  go_wp2_with fail
  exact bodyPost_ret (v := .tuple #[.agg #[.bool true, .bool true, .int .i64 (wrap64 (tick + x 4)), .bool false], .int .i64 1]) (by simp [results, Try.results61, go_sem, *]) rfl ⟨rfl, by repeat (first | exact B3.out | refine Below.setCell ?_ (by simp <;> omega) _ | refine below_al ?_ _)⟩
set_option maxRecDepth 100000 in
set_option maxHeartbeats 4000000 in
theorem refIndex_2ff (A : Option Addr) (n c : Nat) (B : Option Addr) (m d : Nat) (x : Nat → Int) (t tick at_ : Int) (ht : ¬ tick < t) (w : World) (HL : Hid (∀ W : World, Calls Try.prog 112 #[.agg #[.slice A n c, .slice B m d, .int .i64 (x 0), .int .i64 (x 1), .int .i64 (x 2), .int .i64 (x 3), .int .i64 (x 4), .int .i64 (x 5)], .int .i64 at_] W fun e w' => e = .returned (.int .i64 2) ∧ Below W.heap.size W w')) :
    Calls Try.prog 61 #[.agg #[.slice A n c, .slice B m d, .int .i64 (x 0), .int .i64 (x 1), .int .i64 (x 2), .int .i64 (x 3), .int .i64 (x 4), .int .i64 (x 5)], .agg #[.bool false, .bool false, .int .i64 t, .bool false], .int .i64 tick, .int .i64 at_] w fun e w' => e = .returned (.tuple #[.agg #[.bool true, .bool true, .int .i64 (wrap64 (tick + x 5)), .bool false], .int .i64 2]) ∧ Below w.heap.size w w' := by
  have h0 : (((w.alloc (.cells #[.slice A n c, .slice B m d, .int .i64 (x 0), .int .i64 (x 1), .int .i64 (x 2), .int .i64 (x 3), .int .i64 (x 4), .int .i64 (x 5)] 35)).alloc (.cells #[.bool false, .bool false, .int .i64 t, .bool false] 88)).alloc (.cells #[.bool false, .bool false, .int .i64 0, .bool false] 88)).heap[w.heap.size]? = some (.cells #[.slice A n c, .slice B m d, .int .i64 (x 0), .int .i64 (x 1), .int .i64 (x 2), .int .i64 (x 3), .int .i64 (x 4), .int .i64 (x 5)] 35 (0, 0)) := alloc_old _ (alloc_old _ (heap_new _ _))
  have h1 : (((w.alloc (.cells #[.slice A n c, .slice B m d, .int .i64 (x 0), .int .i64 (x 1), .int .i64 (x 2), .int .i64 (x 3), .int .i64 (x 4), .int .i64 (x 5)] 35)).alloc (.cells #[.bool false, .bool false, .int .i64 t, .bool false] 88)).alloc (.cells #[.bool false, .bool false, .int .i64 0, .bool false] 88)).heap[w.heap.size + 1]? = some (.cells #[.bool false, .bool false, .int .i64 t, .bool false] 88 (0, 0)) := alloc_old _ (alloc_new _ (by simp))
  have h2 : (((w.alloc (.cells #[.slice A n c, .slice B m d, .int .i64 (x 0), .int .i64 (x 1), .int .i64 (x 2), .int .i64 (x 3), .int .i64 (x 4), .int .i64 (x 5)] 35)).alloc (.cells #[.bool false, .bool false, .int .i64 t, .bool false] 88)).alloc (.cells #[.bool false, .bool false, .int .i64 0, .bool false] 88)).heap[w.heap.size + 1 + 1]? = some (.cells #[.bool false, .bool false, .int .i64 0, .bool false] 88 (0, 0)) := alloc_new _ (by simp)
  have K0 := Lib.hid h0
  have K1 := Lib.hid h1
  have K2 := Lib.hid h2
  clear h0 h1 h2
  have HH := Lib.hid (fun W => refHalted_any false false false t tick W)
  rw [show haltedB t false tick = false by simp [haltedB]; omega] at HH
  go_enter Try.func61, Try.ntmps61
  go_wp2_with fail
  refine (HL.out _).mono ?_
  rintro e w1 ⟨rfl, hb1⟩
  have g0 := block_keep hb1 (lt_of_heap K0.out) K0.out
  have g1 := block_keep hb1 (lt_of_heap K1.out) K1.out
  have g2 := block_keep hb1 (lt_of_heap K2.out) K2.out
  have B1 := Lib.hid (below_all (below_al (below_al (below_al (Below.refl w.heap.size w) _) _) _) hb1 : Below w.heap.size w w1)
  clear hb1 K0 K1 K2
  have s0 := cell_heap (j := 0) g1 rfl
  have s1 := cell_heap (j := 1) g1 rfl
  have s2 := cell_heap (j := 2) g1 rfl
  have s3 := cell_heap (j := 3) g1 rfl
  have G0 := Lib.hid g0
  have G1 := Lib.hid g1
  have G2 := Lib.hid g2
  clear g0 g1 g2
  go_wp2_with fail
  refine (HH.out _).mono ?_
  rintro e w2 ⟨rfl, hb2⟩
  have d0 := block_keep hb2 (lt_of_heap G0.out) G0.out
  have d1 := block_keep hb2 (lt_of_heap G1.out) G1.out
  have d2 := block_keep hb2 (lt_of_heap G2.out) G2.out
  have B2 := Lib.hid (below_all B1.out hb2)
  clear hb2 G0 G1 G2 s0 s1 s2 s3
  have s0 := cell_heap (j := 0) d1 rfl
  have s1 := cell_heap (j := 1) d1 rfl
  have s2 := cell_heap (j := 2) d1 rfl
  have s3 := cell_heap (j := 3) d1 rfl
  have q0 := frozen_pa d1 0
  have q1 := frozen_pa d1 1
  have q2 := frozen_pa d1 2
  have q3 := frozen_pa d1 3
  have x0 := heap_setOther d0 (show w.heap.size ≠ w.heap.size + 1 by omega) 0 (.bool true)
  have x1 := heap_setSame d1 0 (.bool true)
  have x2 := heap_setOther d2 (show w.heap.size + 1 + 1 ≠ w.heap.size + 1 by omega) 0 (.bool true)
  have X3 := Lib.hid (below_set B2.out (w.heap.size + 1) 0 (Nat.le_succ _) (.bool true))
  have y0 := heap_setOther x0 (show w.heap.size ≠ w.heap.size + 1 by omega) 1 (.bool true)
  have y1 := heap_setSame x1 1 (.bool true)
  have y2 := heap_setOther x2 (show w.heap.size + 1 + 1 ≠ w.heap.size + 1 by omega) 1 (.bool true)
  have Y3 := Lib.hid (below_set X3.out (w.heap.size + 1) 1 (Nat.le_succ _) (.bool true))
  have Z1 := Lib.hid y1
  have Z2 := Lib.hid y2
  clear x0 x1 x2 y1 y2
  go_wp2_with (refine wpList_load_blk 35 _ rfl rfl _ rfl 35 _ _ _ y0 Try.underlying35 rfl (by kernel_rfl) ?_)
  refine (refSpan2_any A n c B m d x _).mono ?_
  rintro e w3 ⟨rfl, hb3⟩
  have e1 := block_keep hb3 (lt_of_heap Z1.out) Z1.out
  have e2 := block_keep hb3 (lt_of_heap Z2.out) Z2.out
  have B3 := Lib.hid (below_all Y3.out hb3)
  clear hb3 d0 d1 d2 s0 s1 s2 s3 q0 q1 q2 q3 y0
  have s0 := cell_heap (j := 0) e1 rfl
  have s1 := cell_heap (j := 1) e1 rfl
  have s2 := cell_heap (j := 2) e1 rfl
  have s3 := cell_heap (j := 3) e1 rfl
  have o0 := cell_heap (j := 0) e2 rfl
  have o1 := cell_heap (j := 1) e2 rfl
  have o2 := cell_heap (j := 2) e2 rfl
  have o3 := cell_heap (j := 3) e2 rfl
  have f0 := frozen_pa e2 0
  have f1 := frozen_pa e2 1
  have f2 := frozen_pa e2 2
  have f3 := frozen_pa e2 3
  have q0 := frozen_pa e1 0
  have q1 := frozen_pa e1 1
  have q2 := frozen_pa e1 2
  have q3 := frozen_pa e1 3
  clear e1 e2
  go_wp2_with fail
  exact bodyPost_ret (v := .tuple #[.agg #[.bool true, .bool true, .int .i64 (wrap64 (tick + x 5)), .bool false], .int .i64 2]) (by simp [results, Try.results61, go_sem, *]) rfl ⟨rfl, by repeat (first | exact B3.out | refine Below.setCell ?_ (by simp <;> omega) _ | refine below_al ?_ _)⟩

end Go.Proofs.Ythhkcckikmldcaa
