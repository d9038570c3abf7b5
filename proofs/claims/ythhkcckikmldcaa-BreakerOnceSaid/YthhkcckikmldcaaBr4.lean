/-
  Breaker: the contract of Index. (Written by gen_br4.py, a program of this session's own.)
-/
import Derived.Test.YthhkcckikmldcaaBr3
import Derived.Laws.ByValue
set_option linter.unusedVariables false
set_option linter.unusedSimpArgs false
namespace Go.Proofs.Ythhkcckikmldcaa
open Go.RowKit

set_option maxRecDepth 100000 in
set_option maxHeartbeats 4000000 in
theorem index_sh (A : Option Addr) (n c : Nat) (B : Option Addr) (m d : Nat) (x : Nat → Int) (t tick at_ : Int) (u0 u1 : Bool) (L : Int) (w : World) (HL : Hid (∀ W : World, Calls Try.prog 65 #[.agg #[.slice A n c, .slice B m d, .int .i64 (x 0), .int .i64 (x 1), .int .i64 (x 2), .int .i64 (x 3), .int .i64 (x 4), .int .i64 (x 5)], .int .i64 at_] W fun e w' => e = .returned (.int .i64 L) ∧ Below W.heap.size W w')) :
    Calls Try.prog 60 #[.agg #[.slice A n c, .slice B m d, .int .i64 (x 0), .int .i64 (x 1), .int .i64 (x 2), .int .i64 (x 3), .int .i64 (x 4), .int .i64 (x 5)], .agg #[.bool u0, .bool u1, .int .i64 t, .bool true], .int .i64 tick, .int .i64 at_] w fun e w' => e = .returned (.tuple #[.agg #[.bool u0, .bool u1, .int .i64 t, .bool true], .int .i64 0]) ∧ Below w.heap.size w w' := by
  have hmf : ∀ (fn : Fn) (first cap : Array Value) (w : World), (Instr.makeFunc fn first cap).run Try.prog w = .ok (.func fn first cap) w := fun _ _ _ _ => rfl
  have h0 : (((w.alloc (.cells #[.slice A n c, .slice B m d, .int .i64 (x 0), .int .i64 (x 1), .int .i64 (x 2), .int .i64 (x 3), .int .i64 (x 4), .int .i64 (x 5)] 35)).alloc (.cells #[.bool u0, .bool u1, .int .i64 t, .bool true] 87)).alloc (.cells #[.bool false, .bool false, .int .i64 0, .bool false] 87)).heap[w.heap.size]? = some (.cells #[.slice A n c, .slice B m d, .int .i64 (x 0), .int .i64 (x 1), .int .i64 (x 2), .int .i64 (x 3), .int .i64 (x 4), .int .i64 (x 5)] 35 (0, 0)) := alloc_old _ (alloc_old _ (heap_new _ _))
  have h1 : (((w.alloc (.cells #[.slice A n c, .slice B m d, .int .i64 (x 0), .int .i64 (x 1), .int .i64 (x 2), .int .i64 (x 3), .int .i64 (x 4), .int .i64 (x 5)] 35)).alloc (.cells #[.bool u0, .bool u1, .int .i64 t, .bool true] 87)).alloc (.cells #[.bool false, .bool false, .int .i64 0, .bool false] 87)).heap[w.heap.size + 1]? = some (.cells #[.bool u0, .bool u1, .int .i64 t, .bool true] 87 (0, 0)) := alloc_old _ (alloc_new _ (by simp))
  have h2 : (((w.alloc (.cells #[.slice A n c, .slice B m d, .int .i64 (x 0), .int .i64 (x 1), .int .i64 (x 2), .int .i64 (x 3), .int .i64 (x 4), .int .i64 (x 5)] 35)).alloc (.cells #[.bool u0, .bool u1, .int .i64 t, .bool true] 87)).alloc (.cells #[.bool false, .bool false, .int .i64 0, .bool false] 87)).heap[w.heap.size + 1 + 1]? = some (.cells #[.bool false, .bool false, .int .i64 0, .bool false] 87 (0, 0)) := alloc_new _ (by simp)
  have K0 := Lib.hid h0
  have K1 := Lib.hid h1
  have K2 := Lib.hid h2
  clear h0 h1 h2
  go_enter Try.func60, Try.ntmps60
  go_wp2_with fail
  refine (HL.out _).mono ?_
  rintro e w1 ⟨rfl, hb1⟩
  have g0 := block_keep hb1 (lt_of_heap K0.out) K0.out
  have g1 := block_keep hb1 (lt_of_heap K1.out) K1.out
  have g2 := block_keep hb1 (lt_of_heap K2.out) K2.out
  have B1 := Lib.hid (below_all (below_al (below_al (below_al (Below.refl w.heap.size w) _) _) _) hb1 : Below w.heap.size w w1)
  clear hb1 K0 K1 K2
  have s0 := cell_heap (j := 0) g1 rfl
  have s1 := cell_heap (j := 1) g1 rfl
  have s2 := cell_heap (j := 2) g1 rfl
  have s3 := cell_heap (j := 3) g1 rfl
  have o0 := cell_heap (j := 0) g2 rfl
  have o1 := cell_heap (j := 1) g2 rfl
  have o2 := cell_heap (j := 2) g2 rfl
  have o3 := cell_heap (j := 3) g2 rfl
  have f0 := frozen_pa g2 0
  have f1 := frozen_pa g2 1
  have f2 := frozen_pa g2 2
  have f3 := frozen_pa g2 3
  clear g0 g1 g2
  go_wp2_with fail
  exact bodyPost_ret (v := .tuple #[.agg #[.bool u0, .bool u1, .int .i64 t, .bool true], .int .i64 0]) (by simp [results, Try.results60, go_sem, *]) rfl ⟨rfl, by repeat (first | exact B1.out | refine Below.setCell ?_ (by simp <;> omega) _ | refine below_al ?_ _)⟩
set_option maxRecDepth 100000 in
set_option maxHeartbeats 4000000 in
theorem index_l3 (A : Option Addr) (n c : Nat) (B : Option Addr) (m d : Nat) (x : Nat → Int) (t tick at_ : Int) (u0 u1 : Bool) (w : World) (HL : Hid (∀ W : World, Calls Try.prog 65 #[.agg #[.slice A n c, .slice B m d, .int .i64 (x 0), .int .i64 (x 1), .int .i64 (x 2), .int .i64 (x 3), .int .i64 (x 4), .int .i64 (x 5)], .int .i64 at_] W fun e w' => e = .returned (.int .i64 3) ∧ Below W.heap.size W w')) :
    Calls Try.prog 60 #[.agg #[.slice A n c, .slice B m d, .int .i64 (x 0), .int .i64 (x 1), .int .i64 (x 2), .int .i64 (x 3), .int .i64 (x 4), .int .i64 (x 5)], .agg #[.bool u0, .bool u1, .int .i64 t, .bool false], .int .i64 tick, .int .i64 at_] w fun e w' => e = .returned (.tuple #[.agg #[.bool u0, .bool u1, .int .i64 0, .bool true], .int .i64 3]) ∧ Below w.heap.size w w' := by
  have hmf : ∀ (fn : Fn) (first cap : Array Value) (w : World), (Instr.makeFunc fn first cap).run Try.prog w = .ok (.func fn first cap) w := fun _ _ _ _ => rfl
  have h0 : (((w.alloc (.cells #[.slice A n c, .slice B m d, .int .i64 (x 0), .int .i64 (x 1), .int .i64 (x 2), .int .i64 (x 3), .int .i64 (x 4), .int .i64 (x 5)] 35)).alloc (.cells #[.bool u0, .bool u1, .int .i64 t, .bool false] 87)).alloc (.cells #[.bool false, .bool false, .int .i64 0, .bool false] 87)).heap[w.heap.size]? = some (.cells #[.slice A n c, .slice B m d, .int .i64 (x 0), .int .i64 (x 1), .int .i64 (x 2), .int .i64 (x 3), .int .i64 (x 4), .int .i64 (x 5)] 35 (0, 0)) := alloc_old _ (alloc_old _ (heap_new _ _))
  have h1 : (((w.alloc (.cells #[.slice A n c, .slice B m d, .int .i64 (x 0), .int .i64 (x 1), .int .i64 (x 2), .int .i64 (x 3), .int .i64 (x 4), .int .i64 (x 5)] 35)).alloc (.cells #[.bool u0, .bool u1, .int .i64 t, .bool false] 87)).alloc (.cells #[.bool false, .bool false, .int .i64 0, .bool false] 87)).heap[w.heap.size + 1]? = some (.cells #[.bool u0, .bool u1, .int .i64 t, .bool false] 87 (0, 0)) := alloc_old _ (alloc_new _ (by simp))
  have h2 : (((w.alloc (.cells #[.slice A n c, .slice B m d, .int .i64 (x 0), .int .i64 (x 1), .int .i64 (x 2), .int .i64 (x 3), .int .i64 (x 4), .int .i64 (x 5)] 35)).alloc (.cells #[.bool u0, .bool u1, .int .i64 t, .bool false] 87)).alloc (.cells #[.bool false, .bool false, .int .i64 0, .bool false] 87)).heap[w.heap.size + 1 + 1]? = some (.cells #[.bool false, .bool false, .int .i64 0, .bool false] 87 (0, 0)) := alloc_new _ (by simp)
  have K0 := Lib.hid h0
  have K1 := Lib.hid h1
  have K2 := Lib.hid h2
  clear h0 h1 h2
  go_enter Try.func60, Try.ntmps60
  go_wp2_with fail
  refine (HL.out _).mono ?_
  rintro e w1 ⟨rfl, hb1⟩
  have g0 := block_keep hb1 (lt_of_heap K0.out) K0.out
  have g1 := block_keep hb1 (lt_of_heap K1.out) K1.out
  have g2 := block_keep hb1 (lt_of_heap K2.out) K2.out
  have B1 := Lib.hid (below_all (below_al (below_al (below_al (Below.refl w.heap.size w) _) _) _) hb1 : Below w.heap.size w w1)
  clear hb1 K0 K1 K2
  have s0 := cell_heap (j := 0) g1 rfl
  have s1 := cell_heap (j := 1) g1 rfl
  have s2 := cell_heap (j := 2) g1 rfl
  have s3 := cell_heap (j := 3) g1 rfl
  have o0 := cell_heap (j := 0) g2 rfl
  have o1 := cell_heap (j := 1) g2 rfl
  have o2 := cell_heap (j := 2) g2 rfl
  have o3 := cell_heap (j := 3) g2 rfl
  have f0 := frozen_pa g2 0
  have f1 := frozen_pa g2 1
  have f2 := frozen_pa g2 2
  have f3 := frozen_pa g2 3
  clear g0 g1 g2
  go_wp2_with fail
  exact bodyPost_ret (v := .tuple #[.agg #[.bool u0, .bool u1, .int .i64 0, .bool true], .int .i64 3]) (by simp [results, Try.results60, go_sem, *]) rfl ⟨rfl, by repeat (first | exact B1.out | refine Below.setCell ?_ (by simp <;> omega) _ | refine below_al ?_ _)⟩
set_option maxRecDepth 100000 in
set_option maxHeartbeats 4000000 in
theorem index_ha (A : Option Addr) (n c : Nat) (B : Option Addr) (m d : Nat) (x : Nat → Int) (t tick at_ : Int) (u0 u1 : Bool) (L : Int) (h3 : L ≠ 3) (ht : tick < t) (w : World) (HL : Hid (∀ W : World, Calls Try.prog 65 #[.agg #[.slice A n c, .slice B m d, .int .i64 (x 0), .int .i64 (x 1), .int .i64 (x 2), .int .i64 (x 3), .int .i64 (x 4), .int .i64 (x 5)], .int .i64 at_] W fun e w' => e = .returned (.int .i64 L) ∧ Below W.heap.size W w')) :
    Calls Try.prog 60 #[.agg #[.slice A n c, .slice B m d, .int .i64 (x 0), .int .i64 (x 1), .int .i64 (x 2), .int .i64 (x 3), .int .i64 (x 4), .int .i64 (x 5)], .agg #[.bool u0, .bool u1, .int .i64 t, .bool false], .int .i64 tick, .int .i64 at_] w fun e w' => e = .returned (.tuple #[.agg #[.bool u0, .bool u1, .int .i64 t, .bool false], .int .i64 0]) ∧ Below w.heap.size w w' := by
  have hmf : ∀ (fn : Fn) (first cap : Array Value) (w : World), (Instr.makeFunc fn first cap).run Try.prog w = .ok (.func fn first cap) w := fun _ _ _ _ => rfl
  have h0 : (((w.alloc (.cells #[.slice A n c, .slice B m d, .int .i64 (x 0), .int .i64 (x 1), .int .i64 (x 2), .int .i64 (x 3), .int .i64 (x 4), .int .i64 (x 5)] 35)).alloc (.cells #[.bool u0, .bool u1, .int .i64 t, .bool false] 87)).alloc (.cells #[.bool false, .bool false, .int .i64 0, .bool false] 87)).heap[w.heap.size]? = some (.cells #[.slice A n c, .slice B m d, .int .i64 (x 0), .int .i64 (x 1), .int .i64 (x 2), .int .i64 (x 3), .int .i64 (x 4), .int .i64 (x 5)] 35 (0, 0)) := alloc_old _ (alloc_old _ (heap_new _ _))
  have h1 : (((w.alloc (.cells #[.slice A n c, .slice B m d, .int .i64 (x 0), .int .i64 (x 1), .int .i64 (x 2), .int .i64 (x 3), .int .i64 (x 4), .int .i64 (x 5)] 35)).alloc (.cells #[.bool u0, .bool u1, .int .i64 t, .bool false] 87)).alloc (.cells #[.bool false, .bool false, .int .i64 0, .bool false] 87)).heap[w.heap.size + 1]? = some (.cells #[.bool u0, .bool u1, .int .i64 t, .bool false] 87 (0, 0)) := alloc_old _ (alloc_new _ (by simp))
  have h2 : (((w.alloc (.cells #[.slice A n c, .slice B m d, .int .i64 (x 0), .int .i64 (x 1), .int .i64 (x 2), .int .i64 (x 3), .int .i64 (x 4), .int .i64 (x 5)] 35)).alloc (.cells #[.bool u0, .bool u1, .int .i64 t, .bool false] 87)).alloc (.cells #[.bool false, .bool false, .int .i64 0, .bool false] 87)).heap[w.heap.size + 1 + 1]? = some (.cells #[.bool false, .bool false, .int .i64 0, .bool false] 87 (0, 0)) := alloc_new _ (by simp)
  have K0 := Lib.hid h0
  have K1 := Lib.hid h1
  have K2 := Lib.hid h2
  clear h0 h1 h2
  have hb3 : (L == 3) = false := by simp [h3]
  have HH := Lib.hid (fun W => halted_any u0 u1 false t tick W)
  rw [show haltedB t false tick = true by simp [haltedB]; omega] at HH
  go_enter Try.func60, Try.ntmps60
  go_wp2_with fail
  refine (HL.out _).mono ?_
  rintro e w1 ⟨rfl, hb1⟩
  have g0 := block_keep hb1 (lt_of_heap K0.out) K0.out
  have g1 := block_keep hb1 (lt_of_heap K1.out) K1.out
  have g2 := block_keep hb1 (lt_of_heap K2.out) K2.out
  have B1 := Lib.hid (below_all (below_al (below_al (below_al (Below.refl w.heap.size w) _) _) _) hb1 : Below w.heap.size w w1)
  clear hb1 K0 K1 K2
  have s0 := cell_heap (j := 0) g1 rfl
  have s1 := cell_heap (j := 1) g1 rfl
  have s2 := cell_heap (j := 2) g1 rfl
  have s3 := cell_heap (j := 3) g1 rfl
  have G0 := Lib.hid g0
  have G1 := Lib.hid g1
  have G2 := Lib.hid g2
  clear g0 g1 g2
  go_wp2_with fail
  refine (HH.out _).mono ?_
  rintro e w2 ⟨rfl, hb2⟩
  have d0 := block_keep hb2 (lt_of_heap G0.out) G0.out
  have d1 := block_keep hb2 (lt_of_heap G1.out) G1.out
  have d2 := block_keep hb2 (lt_of_heap G2.out) G2.out
  have B2 := Lib.hid (below_all B1.out hb2)
  clear hb2 G0 G1 G2 s0 s1 s2 s3
  have s0 := cell_heap (j := 0) d1 rfl
  have s1 := cell_heap (j := 1) d1 rfl
  have s2 := cell_heap (j := 2) d1 rfl
  have s3 := cell_heap (j := 3) d1 rfl
  have o0 := cell_heap (j := 0) d2 rfl
  have o1 := cell_heap (j := 1) d2 rfl
  have o2 := cell_heap (j := 2) d2 rfl
  have o3 := cell_heap (j := 3) d2 rfl
  have f0 := frozen_pa d2 0
  have f1 := frozen_pa d2 1
  have f2 := frozen_pa d2 2
  have f3 := frozen_pa d2 3
  clear d0 d1 d2
  go_wp2_with fail
  exact bodyPost_ret (v := .tuple #[.agg #[.bool u0, .bool u1, .int .i64 t, .bool false], .int .i64 0]) (by simp [results, Try.results60, go_sem, *]) rfl ⟨rfl, by repeat (first | exact B2.out | refine Below.setCell ?_ (by simp <;> omega) _ | refine below_al ?_ _)⟩
set_option maxRecDepth 100000 in
set_option maxHeartbeats 4000000 in
theorem index_hz (A : Option Addr) (n c : Nat) (B : Option Addr) (m d : Nat) (x : Nat → Int) (t tick at_ : Int) (u0 u1 : Bool) (ht : ¬ tick < t) (w : World) (HL : Hid (∀ W : World, Calls Try.prog 65 #[.agg #[.slice A n c, .slice B m d, .int .i64 (x 0), .int .i64 (x 1), .int .i64 (x 2), .int .i64 (x 3), .int .i64 (x 4), .int .i64 (x 5)], .int .i64 at_] W fun e w' => e = .returned (.int .i64 0) ∧ Below W.heap.size W w')) :
    Calls Try.prog 60 #[.agg #[.slice A n c, .slice B m d, .int .i64 (x 0), .int .i64 (x 1), .int .i64 (x 2), .int .i64 (x 3), .int .i64 (x 4), .int .i64 (x 5)], .agg #[.bool u0, .bool u1, .int .i64 t, .bool false], .int .i64 tick, .int .i64 at_] w fun e w' => e = .returned (.tuple #[.agg #[.bool u0, .bool u1, .int .i64 t, .bool false], .int .i64 0]) ∧ Below w.heap.size w w' := by
  have hmf : ∀ (fn : Fn) (first cap : Array Value) (w : World), (Instr.makeFunc fn first cap).run Try.prog w = .ok (.func fn first cap) w := fun _ _ _ _ => rfl
  have h0 : (((w.alloc (.cells #[.slice A n c, .slice B m d, .int .i64 (x 0), .int .i64 (x 1), .int .i64 (x 2), .int .i64 (x 3), .int .i64 (x 4), .int .i64 (x 5)] 35)).alloc (.cells #[.bool u0, .bool u1, .int .i64 t, .bool false] 87)).alloc (.cells #[.bool false, .bool false, .int .i64 0, .bool false] 87)).heap[w.heap.size]? = some (.cells #[.slice A n c, .slice B m d, .int .i64 (x 0), .int .i64 (x 1), .int .i64 (x 2), .int .i64 (x 3), .int .i64 (x 4), .int .i64 (x 5)] 35 (0, 0)) := alloc_old _ (alloc_old _ (heap_new _ _))
  have h1 : (((w.alloc (.cells #[.slice A n c, .slice B m d, .int .i64 (x 0), .int .i64 (x 1), .int .i64 (x 2), .int .i64 (x 3), .int .i64 (x 4), .int .i64 (x 5)] 35)).alloc (.cells #[.bool u0, .bool u1, .int .i64 t, .bool false] 87)).alloc (.cells #[.bool false, .bool false, .int .i64 0, .bool false] 87)).heap[w.heap.size + 1]? = some (.cells #[.bool u0, .bool u1, .int .i64 t, .bool false] 87 (0, 0)) := alloc_old _ (alloc_new _ (by simp))
  have h2 : (((w.alloc (.cells #[.slice A n c, .slice B m d, .int .i64 (x 0), .int .i64 (x 1), .int .i64 (x 2), .int .i64 (x 3), .int .i64 (x 4), .int .i64 (x 5)] 35)).alloc (.cells #[.bool u0, .bool u1, .int .i64 t, .bool false] 87)).alloc (.cells #[.bool false, .bool false, .int .i64 0, .bool false] 87)).heap[w.heap.size + 1 + 1]? = some (.cells #[.bool false, .bool false, .int .i64 0, .bool false] 87 (0, 0)) := alloc_new _ (by simp)
  have K0 := Lib.hid h0
  have K1 := Lib.hid h1
  have K2 := Lib.hid h2
  clear h0 h1 h2
  have HH := Lib.hid (fun W => halted_any u0 u1 false t tick W)
  rw [show haltedB t false tick = false by simp [haltedB]; omega] at HH
  go_enter Try.func60, Try.ntmps60
  go_wp2_with fail
  refine (HL.out _).mono ?_
  rintro e w1 ⟨rfl, hb1⟩
  have g0 := block_keep hb1 (lt_of_heap K0.out) K0.out
  have g1 := block_keep hb1 (lt_of_heap K1.out) K1.out
  have g2 := block_keep hb1 (lt_of_heap K2.out) K2.out
  have B1 := Lib.hid (below_all (below_al (below_al (below_al (Below.refl w.heap.size w) _) _) _) hb1 : Below w.heap.size w w1)
  clear hb1 K0 K1 K2
  have s0 := cell_heap (j := 0) g1 rfl
  have s1 := cell_heap (j := 1) g1 rfl
  have s2 := cell_heap (j := 2) g1 rfl
  have s3 := cell_heap (j := 3) g1 rfl
  have G0 := Lib.hid g0
  have G1 := Lib.hid g1
  have G2 := Lib.hid g2
  clear g0 g1 g2
  go_wp2_with fail
  refine (HH.out _).mono ?_
  rintro e w2 ⟨rfl, hb2⟩
  have d0 := block_keep hb2 (lt_of_heap G0.out) G0.out
  have d1 := block_keep hb2 (lt_of_heap G1.out) G1.out
  have d2 := block_keep hb2 (lt_of_heap G2.out) G2.out
  have B2 := Lib.hid (below_all B1.out hb2)
  clear hb2 G0 G1 G2 s0 s1 s2 s3
  have s0 := cell_heap (j := 0) d1 rfl
  have s1 := cell_heap (j := 1) d1 rfl
  have s2 := cell_heap (j := 2) d1 rfl
  have s3 := cell_heap (j := 3) d1 rfl
  have o0 := cell_heap (j := 0) d2 rfl
  have o1 := cell_heap (j := 1) d2 rfl
  have o2 := cell_heap (j := 2) d2 rfl
  have o3 := cell_heap (j := 3) d2 rfl
  have f0 := frozen_pa d2 0
  have f1 := frozen_pa d2 1
  have f2 := frozen_pa d2 2
  have f3 := frozen_pa d2 3
  clear d0 d1 d2
  go_wp2_with fail
  exact bodyPost_ret (v := .tuple #[.agg #[.bool u0, .bool u1, .int .i64 t, .bool false], .int .i64 0]) (by simp [results, Try.results60, go_sem, *]) rfl ⟨rfl, by repeat (first | exact B2.out | refine Below.setCell ?_ (by simp <;> omega) _ | refine below_al ?_ _)⟩
set_option maxRecDepth 100000 in
set_option maxHeartbeats 4000000 in
theorem index_1tt (A : Option Addr) (n c : Nat) (B : Option Addr) (m d : Nat) (x : Nat → Int) (t tick at_ : Int) (ht : ¬ tick < t) (w : World) (HL : Hid (∀ W : World, Calls Try.prog 65 #[.agg #[.slice A n c, .slice B m d, .int .i64 (x 0), .int .i64 (x 1), .int .i64 (x 2), .int .i64 (x 3), .int .i64 (x 4), .int .i64 (x 5)], .int .i64 at_] W fun e w' => e = .returned (.int .i64 1) ∧ Below W.heap.size W w')) :
    Calls Try.prog 60 #[.agg #[.slice A n c, .slice B m d, .int .i64 (x 0), .int .i64 (x 1), .int .i64 (x 2), .int .i64 (x 3), .int .i64 (x 4), .int .i64 (x 5)], .agg #[.bool true, .bool true, .int .i64 t, .bool false], .int .i64 tick, .int .i64 at_] w fun e w' => e = .returned (.tuple #[.agg #[.bool true, .bool true, .int .i64 t, .bool false], .int .i64 0]) ∧ Below w.heap.size w w' := by
  have hmf : ∀ (fn : Fn) (first cap : Array Value) (w : World), (Instr.makeFunc fn first cap).run Try.prog w = .ok (.func fn first cap) w := fun _ _ _ _ => rfl
  have h0 : (((w.alloc (.cells #[.slice A n c, .slice B m d, .int .i64 (x 0), .int .i64 (x 1), .int .i64 (x 2), .int .i64 (x 3), .int .i64 (x 4), .int .i64 (x 5)] 35)).alloc (.cells #[.bool true, .bool true, .int .i64 t, .bool false] 87)).alloc (.cells #[.bool false, .bool false, .int .i64 0, .bool false] 87)).heap[w.heap.size]? = some (.cells #[.slice A n c, .slice B m d, .int .i64 (x 0), .int .i64 (x 1), .int .i64 (x 2), .int .i64 (x 3), .int .i64 (x 4), .int .i64 (x 5)] 35 (0, 0)) := alloc_old _ (alloc_old _ (heap_new _ _))
  have h1 : (((w.alloc (.cells #[.slice A n c, .slice B m d, .int .i64 (x 0), .int .i64 (x 1), .int .i64 (x 2), .int .i64 (x 3), .int .i64 (x 4), .int .i64 (x 5)] 35)).alloc (.cells #[.bool true, .bool true, .int .i64 t, .bool false] 87)).alloc (.cells #[.bool false, .bool false, .int .i64 0, .bool false] 87)).heap[w.heap.size + 1]? = some (.cells #[.bool true, .bool true, .int .i64 t, .bool false] 87 (0, 0)) := alloc_old _ (alloc_new _ (by simp))
  have h2 : (((w.alloc (.cells #[.slice A n c, .slice B m d, .int .i64 (x 0), .int .i64 (x 1), .int .i64 (x 2), .int .i64 (x 3), .int .i64 (x 4), .int .i64 (x 5)] 35)).alloc (.cells #[.bool true, .bool true, .int .i64 t, .bool false] 87)).alloc (.cells #[.bool false, .bool false, .int .i64 0, .bool false] 87)).heap[w.heap.size + 1 + 1]? = some (.cells #[.bool false, .bool false, .int .i64 0, .bool false] 87 (0, 0)) := alloc_new _ (by simp)
  have K0 := Lib.hid h0
  have K1 := Lib.hid h1
  have K2 := Lib.hid h2
  clear h0 h1 h2
  have HH := Lib.hid (fun W => halted_any true true false t tick W)
  rw [show haltedB t false tick = false by simp [haltedB]; omega] at HH
  have heq : ∀ W : World, (Op.equalIn 10000 85 (.agg #[.bool true, .bool true]) (.agg #[.bool true, .bool true])).run Try.prog W = .ok true W := fun _ => by kernel_rfl
  go_enter Try.func60, Try.ntmps60
  go_wp2_with fail
  refine (HL.out _).mono ?_
  rintro e w1 ⟨rfl, hb1⟩
  have g0 := block_keep hb1 (lt_of_heap K0.out) K0.out
  have g1 := block_keep hb1 (lt_of_heap K1.out) K1.out
  have g2 := block_keep hb1 (lt_of_heap K2.out) K2.out
  have B1 := Lib.hid (below_all (below_al (below_al (below_al (Below.refl w.heap.size w) _) _) _) hb1 : Below w.heap.size w w1)
  clear hb1 K0 K1 K2
  have s0 := cell_heap (j := 0) g1 rfl
  have s1 := cell_heap (j := 1) g1 rfl
  have s2 := cell_heap (j := 2) g1 rfl
  have s3 := cell_heap (j := 3) g1 rfl
  have G0 := Lib.hid g0
  have G1 := Lib.hid g1
  have G2 := Lib.hid g2
  clear g0 g1 g2
  go_wp2_with fail
  refine (HH.out _).mono ?_
  rintro e w2 ⟨rfl, hb2⟩
  have d0 := block_keep hb2 (lt_of_heap G0.out) G0.out
  have d1 := block_keep hb2 (lt_of_heap G1.out) G1.out
  have d2 := block_keep hb2 (lt_of_heap G2.out) G2.out
  have B2 := Lib.hid (below_all B1.out hb2)
  clear hb2 G0 G1 G2 s0 s1 s2 s3
  have s0 := cell_heap (j := 0) d1 rfl
  have s1 := cell_heap (j := 1) d1 rfl
  have s2 := cell_heap (j := 2) d1 rfl
  have s3 := cell_heap (j := 3) d1 rfl
  have o0 := cell_heap (j := 0) d2 rfl
  have o1 := cell_heap (j := 1) d2 rfl
  have o2 := cell_heap (j := 2) d2 rfl
  have o3 := cell_heap (j := 3) d2 rfl
  have f0 := frozen_pa d2 0
  have f1 := frozen_pa d2 1
  have f2 := frozen_pa d2 2
  have f3 := frozen_pa d2 3
  clear d0 d1 d2
  go_wp2_with fail
  exact bodyPost_ret (v := .tuple #[.agg #[.bool true, .bool true, .int .i64 t, .bool false], .int .i64 0]) (by simp [results, Try.results60, go_sem, *]) rfl ⟨rfl, by repeat (first | exact B2.out | refine Below.setCell ?_ (by simp <;> omega) _ | refine below_al ?_ _)⟩
set_option maxRecDepth 100000 in
set_option maxHeartbeats 4000000 in
theorem index_1tf (A : Option Addr) (n c : Nat) (B : Option Addr) (m d : Nat) (x : Nat → Int) (t tick at_ : Int) (ht : ¬ tick < t) (w : World) (HL : Hid (∀ W : World, Calls Try.prog 65 #[.agg #[.slice A n c, .slice B m d, .int .i64 (x 0), .int .i64 (x 1), .int .i64 (x 2), .int .i64 (x 3), .int .i64 (x 4), .int .i64 (x 5)], .int .i64 at_] W fun e w' => e = .returned (.int .i64 1) ∧ Below W.heap.size W w')) :
    Calls Try.prog 60 #[.agg #[.slice A n c, .slice B m d, .int .i64 (x 0), .int .i64 (x 1), .int .i64 (x 2), .int .i64 (x 3), .int .i64 (x 4), .int .i64 (x 5)], .agg #[.bool true, .bool false, .int .i64 t, .bool false], .int .i64 tick, .int .i64 at_] w fun e w' => e = .returned (.tuple #[.agg #[.bool true, .bool false, .int .i64 t, .bool false], .int .i64 0]) ∧ Below w.heap.size w w' := by
  have hmf : ∀ (fn : Fn) (first cap : Array Value) (w : World), (Instr.makeFunc fn first cap).run Try.prog w = .ok (.func fn first cap) w := fun _ _ _ _ => rfl
  have h0 : (((w.alloc (.cells #[.slice A n c, .slice B m d, .int .i64 (x 0), .int .i64 (x 1), .int .i64 (x 2), .int .i64 (x 3), .int .i64 (x 4), .int .i64 (x 5)] 35)).alloc (.cells #[.bool true, .bool false, .int .i64 t, .bool false] 87)).alloc (.cells #[.bool false, .bool false, .int .i64 0, .bool false] 87)).heap[w.heap.size]? = some (.cells #[.slice A n c, .slice B m d, .int .i64 (x 0), .int .i64 (x 1), .int .i64 (x 2), .int .i64 (x 3), .int .i64 (x 4), .int .i64 (x 5)] 35 (0, 0)) := alloc_old _ (alloc_old _ (heap_new _ _))
  have h1 : (((w.alloc (.cells #[.slice A n c, .slice B m d, .int .i64 (x 0), .int .i64 (x 1), .int .i64 (x 2), .int .i64 (x 3), .int .i64 (x 4), .int .i64 (x 5)] 35)).alloc (.cells #[.bool true, .bool false, .int .i64 t, .bool false] 87)).alloc (.cells #[.bool false, .bool false, .int .i64 0, .bool false] 87)).heap[w.heap.size + 1]? = some (.cells #[.bool true, .bool false, .int .i64 t, .bool false] 87 (0, 0)) := alloc_old _ (alloc_new _ (by simp))
  have h2 : (((w.alloc (.cells #[.slice A n c, .slice B m d, .int .i64 (x 0), .int .i64 (x 1), .int .i64 (x 2), .int .i64 (x 3), .int .i64 (x 4), .int .i64 (x 5)] 35)).alloc (.cells #[.bool true, .bool false, .int .i64 t, .bool false] 87)).alloc (.cells #[.bool false, .bool false, .int .i64 0, .bool false] 87)).heap[w.heap.size + 1 + 1]? = some (.cells #[.bool false, .bool false, .int .i64 0, .bool false] 87 (0, 0)) := alloc_new _ (by simp)
  have K0 := Lib.hid h0
  have K1 := Lib.hid h1
  have K2 := Lib.hid h2
  clear h0 h1 h2
  have HH := Lib.hid (fun W => halted_any true false false t tick W)
  rw [show haltedB t false tick = false by simp [haltedB]; omega] at HH
  have heq : ∀ W : World, (Op.equalIn 10000 85 (.agg #[.bool true, .bool false]) (.agg #[.bool true, .bool true])).run Try.prog W = .ok false W := fun _ => by kernel_rfl
  go_enter Try.func60, Try.ntmps60
  go_wp2_with fail
  refine (HL.out _).mono ?_
  rintro e w1 ⟨rfl, hb1⟩
  have g0 := block_keep hb1 (lt_of_heap K0.out) K0.out
  have g1 := block_keep hb1 (lt_of_heap K1.out) K1.out
  have g2 := block_keep hb1 (lt_of_heap K2.out) K2.out
  have B1 := Lib.hid (below_all (below_al (below_al (below_al (Below.refl w.heap.size w) _) _) _) hb1 : Below w.heap.size w w1)
  clear hb1 K0 K1 K2
  have s0 := cell_heap (j := 0) g1 rfl
  have s1 := cell_heap (j := 1) g1 rfl
  have s2 := cell_heap (j := 2) g1 rfl
  have s3 := cell_heap (j := 3) g1 rfl
  have G0 := Lib.hid g0
  have G1 := Lib.hid g1
  have G2 := Lib.hid g2
  clear g0 g1 g2
  go_wp2_with fail
  refine (HH.out _).mono ?_
  rintro e w2 ⟨rfl, hb2⟩
  have d0 := block_keep hb2 (lt_of_heap G0.out) G0.out
  have d1 := block_keep hb2 (lt_of_heap G1.out) G1.out
  have d2 := block_keep hb2 (lt_of_heap G2.out) G2.out
  have B2 := Lib.hid (below_all B1.out hb2)
  clear hb2 G0 G1 G2 s0 s1 s2 s3
  have s0 := cell_heap (j := 0) d1 rfl
  have s1 := cell_heap (j := 1) d1 rfl
  have s2 := cell_heap (j := 2) d1 rfl
  have s3 := cell_heap (j := 3) d1 rfl
  have o0 := cell_heap (j := 0) d2 rfl
  have o1 := cell_heap (j := 1) d2 rfl
  have o2 := cell_heap (j := 2) d2 rfl
  have o3 := cell_heap (j := 3) d2 rfl
  have f0 := frozen_pa d2 0
  have f1 := frozen_pa d2 1
  have f2 := frozen_pa d2 2
  have f3 := frozen_pa d2 3
  clear d0 d1 d2
  go_wp2_with fail
  exact bodyPost_ret (v := .tuple #[.agg #[.bool true, .bool false, .int .i64 t, .bool false], .int .i64 0]) (by simp [results, Try.results60, go_sem, *]) rfl ⟨rfl, by repeat (first | exact B2.out | refine Below.setCell ?_ (by simp <;> omega) _ | refine below_al ?_ _)⟩
set_option maxRecDepth 100000 in
set_option maxHeartbeats 4000000 in
theorem index_1ft (A : Option Addr) (n c : Nat) (B : Option Addr) (m d : Nat) (x : Nat → Int) (t tick at_ : Int) (ht : ¬ tick < t) (w : World) (HL : Hid (∀ W : World, Calls Try.prog 65 #[.agg #[.slice A n c, .slice B m d, .int .i64 (x 0), .int .i64 (x 1), .int .i64 (x 2), .int .i64 (x 3), .int .i64 (x 4), .int .i64 (x 5)], .int .i64 at_] W fun e w' => e = .returned (.int .i64 1) ∧ Below W.heap.size W w')) :
    Calls Try.prog 60 #[.agg #[.slice A n c, .slice B m d, .int .i64 (x 0), .int .i64 (x 1), .int .i64 (x 2), .int .i64 (x 3), .int .i64 (x 4), .int .i64 (x 5)], .agg #[.bool false, .bool true, .int .i64 t, .bool false], .int .i64 tick, .int .i64 at_] w fun e w' => e = .returned (.tuple #[.agg #[.bool true, .bool true, .int .i64 (wrap64 (tick + x 4)), .bool false], .int .i64 1]) ∧ Below w.heap.size w w' := by
  have hmf : ∀ (fn : Fn) (first cap : Array Value) (w : World), (Instr.makeFunc fn first cap).run Try.prog w = .ok (.func fn first cap) w := fun _ _ _ _ => rfl
  have h0 : (((w.alloc (.cells #[.slice A n c, .slice B m d, .int .i64 (x 0), .int .i64 (x 1), .int .i64 (x 2), .int .i64 (x 3), .int .i64 (x 4), .int .i64 (x 5)] 35)).alloc (.cells #[.bool false, .bool true, .int .i64 t, .bool false] 87)).alloc (.cells #[.bool false, .bool false, .int .i64 0, .bool false] 87)).heap[w.heap.size]? = some (.cells #[.slice A n c, .slice B m d, .int .i64 (x 0), .int .i64 (x 1), .int .i64 (x 2), .int .i64 (x 3), .int .i64 (x 4), .int .i64 (x 5)] 35 (0, 0)) := alloc_old _ (alloc_old _ (heap_new _ _))
  have h1 : (((w.alloc (.cells #[.slice A n c, .slice B m d, .int .i64 (x 0), .int .i64 (x 1), .int .i64 (x 2), .int .i64 (x 3), .int .i64 (x 4), .int .i64 (x 5)] 35)).alloc (.cells #[.bool false, .bool true, .int .i64 t, .bool false] 87)).alloc (.cells #[.bool false, .bool false, .int .i64 0, .bool false] 87)).heap[w.heap.size + 1]? = some (.cells #[.bool false, .bool true, .int .i64 t, .bool false] 87 (0, 0)) := alloc_old _ (alloc_new _ (by simp))
  have h2 : (((w.alloc (.cells #[.slice A n c, .slice B m d, .int .i64 (x 0), .int .i64 (x 1), .int .i64 (x 2), .int .i64 (x 3), .int .i64 (x 4), .int .i64 (x 5)] 35)).alloc (.cells #[.bool false, .bool true, .int .i64 t, .bool false] 87)).alloc (.cells #[.bool false, .bool false, .int .i64 0, .bool false] 87)).heap[w.heap.size + 1 + 1]? = some (.cells #[.bool false, .bool false, .int .i64 0, .bool false] 87 (0, 0)) := alloc_new _ (by simp)
  have K0 := Lib.hid h0
  have K1 := Lib.hid h1
  have K2 := Lib.hid h2
  clear h0 h1 h2
  have HH := Lib.hid (fun W => halted_any false true false t tick W)
  rw [show haltedB t false tick = false by simp [haltedB]; omega] at HH
  have heq : ∀ W : World, (Op.equalIn 10000 85 (.agg #[.bool false, .bool true]) (.agg #[.bool true, .bool true])).run Try.prog W = .ok false W := fun _ => by kernel_rfl
  go_enter Try.func60, Try.ntmps60
  go_wp2_with fail
  refine (HL.out _).mono ?_
  rintro e w1 ⟨rfl, hb1⟩
  have g0 := block_keep hb1 (lt_of_heap K0.out) K0.out
  have g1 := block_keep hb1 (lt_of_heap K1.out) K1.out
  have g2 := block_keep hb1 (lt_of_heap K2.out) K2.out
  have B1 := Lib.hid (below_all (below_al (below_al (below_al (Below.refl w.heap.size w) _) _) _) hb1 : Below w.heap.size w w1)
  clear hb1 K0 K1 K2
  have s0 := cell_heap (j := 0) g1 rfl
  have s1 := cell_heap (j := 1) g1 rfl
  have s2 := cell_heap (j := 2) g1 rfl
  have s3 := cell_heap (j := 3) g1 rfl
  have G0 := Lib.hid g0
  have G1 := Lib.hid g1
  have G2 := Lib.hid g2
  clear g0 g1 g2
  go_wp2_with fail
  refine (HH.out _).mono ?_
  rintro e w2 ⟨rfl, hb2⟩
  have d0 := block_keep hb2 (lt_of_heap G0.out) G0.out
  have d1 := block_keep hb2 (lt_of_heap G1.out) G1.out
  have d2 := block_keep hb2 (lt_of_heap G2.out) G2.out
  have B2 := Lib.hid (below_all B1.out hb2)
  clear hb2 G0 G1 G2 s0 s1 s2 s3
  have s0 := cell_heap (j := 0) d1 rfl
  have s1 := cell_heap (j := 1) d1 rfl
  have s2 := cell_heap (j := 2) d1 rfl
  have s3 := cell_heap (j := 3) d1 rfl
  have G2 := Lib.hid d2
  go_wp2_with (refine wpList_load_blk 35 _ rfl rfl _ rfl 35 _ _ _ d0 Try.underlying35 rfl (by kernel_rfl) ?_)
  refine (halt1_any A n c B m d x false true false t tick _).mono ?_
  rintro e w3 ⟨rfl, hb3⟩
  have e2 := block_keep hb3 (lt_of_heap G2.out) G2.out
  have B3 := Lib.hid (below_all B2.out hb3)
  clear hb3 d0 d1 d2
  have o0 := cell_heap (j := 0) e2 rfl
  have o1 := cell_heap (j := 1) e2 rfl
  have o2 := cell_heap (j := 2) e2 rfl
  have o3 := cell_heap (j := 3) e2 rfl
  have f0 := frozen_pa e2 0
  have f1 := frozen_pa e2 1
  have f2 := frozen_pa e2 2
  have f3 := frozen_pa e2 3
  clear e2
  go_wp2_with fail
  exact bodyPost_ret (v := .tuple #[.agg #[.bool true, .bool true, .int .i64 (wrap64 (tick + x 4)), .bool false], .int .i64 1]) (by simp [results, Try.results60, go_sem, *]) rfl ⟨rfl, by repeat (first | exact B3.out | refine Below.setCell ?_ (by simp <;> omega) _ | refine below_al ?_ _)⟩
set_option maxRecDepth 100000 in
set_option maxHeartbeats 4000000 in
theorem index_1ff (A : Option Addr) (n c : Nat) (B : Option Addr) (m d : Nat) (x : Nat → Int) (t tick at_ : Int) (ht : ¬ tick < t) (w : World) (HL : Hid (∀ W : World, Calls Try.prog 65 #[.agg #[.slice A n c, .slice B m d, .int .i64 (x 0), .int .i64 (x 1), .int .i64 (x 2), .int .i64 (x 3), .int .i64 (x 4), .int .i64 (x 5)], .int .i64 at_] W fun e w' => e = .returned (.int .i64 1) ∧ Below W.heap.size W w')) :
    Calls Try.prog 60 #[.agg #[.slice A n c, .slice B m d, .int .i64 (x 0), .int .i64 (x 1), .int .i64 (x 2), .int .i64 (x 3), .int .i64 (x 4), .int .i64 (x 5)], .agg #[.bool false, .bool false, .int .i64 t, .bool false], .int .i64 tick, .int .i64 at_] w fun e w' => e = .returned (.tuple #[.agg #[.bool true, .bool false, .int .i64 (wrap64 (tick + x 4)), .bool false], .int .i64 1]) ∧ Below w.heap.size w w' := by
  have hmf : ∀ (fn : Fn) (first cap : Array Value) (w : World), (Instr.makeFunc fn first cap).run Try.prog w = .ok (.func fn first cap) w := fun _ _ _ _ => rfl
  have h0 : (((w.alloc (.cells #[.slice A n c, .slice B m d, .int .i64 (x 0), .int .i64 (x 1), .int .i64 (x 2), .int .i64 (x 3), .int .i64 (x 4), .int .i64 (x 5)] 35)).alloc (.cells #[.bool false, .bool false, .int .i64 t, .bool false] 87)).alloc (.cells #[.bool false, .bool false, .int .i64 0, .bool false] 87)).heap[w.heap.size]? = some (.cells #[.slice A n c, .slice B m d, .int .i64 (x 0), .int .i64 (x 1), .int .i64 (x 2), .int .i64 (x 3), .int .i64 (x 4), .int .i64 (x 5)] 35 (0, 0)) := alloc_old _ (alloc_old _ (heap_new _ _))
  have h1 : (((w.alloc (.cells #[.slice A n c, .slice B m d, .int .i64 (x 0), .int .i64 (x 1), .int .i64 (x 2), .int .i64 (x 3), .int .i64 (x 4), .int .i64 (x 5)] 35)).alloc (.cells #[.bool false, .bool false, .int .i64 t, .bool false] 87)).alloc (.cells #[.bool false, .bool false, .int .i64 0, .bool false] 87)).heap[w.heap.size + 1]? = some (.cells #[.bool false, .bool false, .int .i64 t, .bool false] 87 (0, 0)) := alloc_old _ (alloc_new _ (by simp))
  have h2 : (((w.alloc (.cells #[.slice A n c, .slice B m d, .int .i64 (x 0), .int .i64 (x 1), .int .i64 (x 2), .int .i64 (x 3), .int .i64 (x 4), .int .i64 (x 5)] 35)).alloc (.cells #[.bool false, .bool false, .int .i64 t, .bool false] 87)).alloc (.cells #[.bool false, .bool false, .int .i64 0, .bool false] 87)).heap[w.heap.size + 1 + 1]? = some (.cells #[.bool false, .bool false, .int .i64 0, .bool false] 87 (0, 0)) := alloc_new _ (by simp)
  have K0 := Lib.hid h0
  have K1 := Lib.hid h1
  have K2 := Lib.hid h2
  clear h0 h1 h2
  have HH := Lib.hid (fun W => halted_any false false false t tick W)
  rw [show haltedB t false tick = false by simp [haltedB]; omega] at HH
  have heq : ∀ W : World, (Op.equalIn 10000 85 (.agg #[.bool false, .bool false]) (.agg #[.bool true, .bool true])).run Try.prog W = .ok false W := fun _ => by kernel_rfl
  go_enter Try.func60, Try.ntmps60
  go_wp2_with fail
  refine (HL.out _).mono ?_
  rintro e w1 ⟨rfl, hb1⟩
  have g0 := block_keep hb1 (lt_of_heap K0.out) K0.out
  have g1 := block_keep hb1 (lt_of_heap K1.out) K1.out
  have g2 := block_keep hb1 (lt_of_heap K2.out) K2.out
  have B1 := Lib.hid (below_all (below_al (below_al (below_al (Below.refl w.heap.size w) _) _) _) hb1 : Below w.heap.size w w1)
  clear hb1 K0 K1 K2
  have s0 := cell_heap (j := 0) g1 rfl
  have s1 := cell_heap (j := 1) g1 rfl
  have s2 := cell_heap (j := 2) g1 rfl
  have s3 := cell_heap (j := 3) g1 rfl
  have G0 := Lib.hid g0
  have G1 := Lib.hid g1
  have G2 := Lib.hid g2
  clear g0 g1 g2
  go_wp2_with fail
  refine (HH.out _).mono ?_
  rintro e w2 ⟨rfl, hb2⟩
  have d0 := block_keep hb2 (lt_of_heap G0.out) G0.out
  have d1 := block_keep hb2 (lt_of_heap G1.out) G1.out
  have d2 := block_keep hb2 (lt_of_heap G2.out) G2.out
  have B2 := Lib.hid (below_all B1.out hb2)
  clear hb2 G0 G1 G2 s0 s1 s2 s3
  have s0 := cell_heap (j := 0) d1 rfl
  have s1 := cell_heap (j := 1) d1 rfl
  have s2 := cell_heap (j := 2) d1 rfl
  have s3 := cell_heap (j := 3) d1 rfl
  have G2 := Lib.hid d2
  go_wp2_with (refine wpList_load_blk 35 _ rfl rfl _ rfl 35 _ _ _ d0 Try.underlying35 rfl (by kernel_rfl) ?_)
  refine (halt1_any A n c B m d x false false false t tick _).mono ?_
  rintro e w3 ⟨rfl, hb3⟩
  have e2 := block_keep hb3 (lt_of_heap G2.out) G2.out
  have B3 := Lib.hid (below_all B2.out hb3)
  clear hb3 d0 d1 d2
  have o0 := cell_heap (j := 0) e2 rfl
  have o1 := cell_heap (j := 1) e2 rfl
  have o2 := cell_heap (j := 2) e2 rfl
  have o3 := cell_heap (j := 3) e2 rfl
  have f0 := frozen_pa e2 0
  have f1 := frozen_pa e2 1
  have f2 := frozen_pa e2 2
  have f3 := frozen_pa e2 3
  clear e2
  go_wp2_with fail
  exact bodyPost_ret (v := .tuple #[.agg #[.bool true, .bool false, .int .i64 (wrap64 (tick + x 4)), .bool false], .int .i64 1]) (by simp [results, Try.results60, go_sem, *]) rfl ⟨rfl, by repeat (first | exact B3.out | refine Below.setCell ?_ (by simp <;> omega) _ | refine below_al ?_ _)⟩
set_option maxRecDepth 100000 in
set_option maxHeartbeats 4000000 in
theorem index_2tt (A : Option Addr) (n c : Nat) (B : Option Addr) (m d : Nat) (x : Nat → Int) (t tick at_ : Int) (ht : ¬ tick < t) (w : World) (HL : Hid (∀ W : World, Calls Try.prog 65 #[.agg #[.slice A n c, .slice B m d, .int .i64 (x 0), .int .i64 (x 1), .int .i64 (x 2), .int .i64 (x 3), .int .i64 (x 4), .int .i64 (x 5)], .int .i64 at_] W fun e w' => e = .returned (.int .i64 2) ∧ Below W.heap.size W w')) :
    Calls Try.prog 60 #[.agg #[.slice A n c, .slice B m d, .int .i64 (x 0), .int .i64 (x 1), .int .i64 (x 2), .int .i64 (x 3), .int .i64 (x 4), .int .i64 (x 5)], .agg #[.bool true, .bool true, .int .i64 t, .bool false], .int .i64 tick, .int .i64 at_] w fun e w' => e = .returned (.tuple #[.agg #[.bool true, .bool true, .int .i64 t, .bool false], .int .i64 0]) ∧ Below w.heap.size w w' := by
  have hmf : ∀ (fn : Fn) (first cap : Array Value) (w : World), (Instr.makeFunc fn first cap).run Try.prog w = .ok (.func fn first cap) w := fun _ _ _ _ => rfl
  have h0 : (((w.alloc (.cells #[.slice A n c, .slice B m d, .int .i64 (x 0), .int .i64 (x 1), .int .i64 (x 2), .int .i64 (x 3), .int .i64 (x 4), .int .i64 (x 5)] 35)).alloc (.cells #[.bool true, .bool true, .int .i64 t, .bool false] 87)).alloc (.cells #[.bool false, .bool false, .int .i64 0, .bool false] 87)).heap[w.heap.size]? = some (.cells #[.slice A n c, .slice B m d, .int .i64 (x 0), .int .i64 (x 1), .int .i64 (x 2), .int .i64 (x 3), .int .i64 (x 4), .int .i64 (x 5)] 35 (0, 0)) := alloc_old _ (alloc_old _ (heap_new _ _))
  have h1 : (((w.alloc (.cells #[.slice A n c, .slice B m d, .int .i64 (x 0), .int .i64 (x 1), .int .i64 (x 2), .int .i64 (x 3), .int .i64 (x 4), .int .i64 (x 5)] 35)).alloc (.cells #[.bool true, .bool true, .int .i64 t, .bool false] 87)).alloc (.cells #[.bool false, .bool false, .int .i64 0, .bool false] 87)).heap[w.heap.size + 1]? = some (.cells #[.bool true, .bool true, .int .i64 t, .bool false] 87 (0, 0)) := alloc_old _ (alloc_new _ (by simp))
  have h2 : (((w.alloc (.cells #[.slice A n c, .slice B m d, .int .i64 (x 0), .int .i64 (x 1), .int .i64 (x 2), .int .i64 (x 3), .int .i64 (x 4), .int .i64 (x 5)] 35)).alloc (.cells #[.bool true, .bool true, .int .i64 t, .bool false] 87)).alloc (.cells #[.bool false, .bool false, .int .i64 0, .bool false] 87)).heap[w.heap.size + 1 + 1]? = some (.cells #[.bool false, .bool false, .int .i64 0, .bool false] 87 (0, 0)) := alloc_new _ (by simp)
  have K0 := Lib.hid h0
  have K1 := Lib.hid h1
  have K2 := Lib.hid h2
  clear h0 h1 h2
  have HH := Lib.hid (fun W => halted_any true true false t tick W)
  rw [show haltedB t false tick = false by simp [haltedB]; omega] at HH
  have heq : ∀ W : World, (Op.equalIn 10000 85 (.agg #[.bool true, .bool true]) (.agg #[.bool true, .bool true])).run Try.prog W = .ok true W := fun _ => by kernel_rfl
  go_enter Try.func60, Try.ntmps60
  go_wp2_with fail
  refine (HL.out _).mono ?_
  rintro e w1 ⟨rfl, hb1⟩
  have g0 := block_keep hb1 (lt_of_heap K0.out) K0.out
  have g1 := block_keep hb1 (lt_of_heap K1.out) K1.out
  have g2 := block_keep hb1 (lt_of_heap K2.out) K2.out
  have B1 := Lib.hid (below_all (below_al (below_al (below_al (Below.refl w.heap.size w) _) _) _) hb1 : Below w.heap.size w w1)
  clear hb1 K0 K1 K2
  have s0 := cell_heap (j := 0) g1 rfl
  have s1 := cell_heap (j := 1) g1 rfl
  have s2 := cell_heap (j := 2) g1 rfl
  have s3 := cell_heap (j := 3) g1 rfl
  have G0 := Lib.hid g0
  have G1 := Lib.hid g1
  have G2 := Lib.hid g2
  clear g0 g1 g2
  go_wp2_with fail
  refine (HH.out _).mono ?_
  rintro e w2 ⟨rfl, hb2⟩
  have d0 := block_keep hb2 (lt_of_heap G0.out) G0.out
  have d1 := block_keep hb2 (lt_of_heap G1.out) G1.out
  have d2 := block_keep hb2 (lt_of_heap G2.out) G2.out
  have B2 := Lib.hid (below_all B1.out hb2)
  clear hb2 G0 G1 G2 s0 s1 s2 s3
  have s0 := cell_heap (j := 0) d1 rfl
  have s1 := cell_heap (j := 1) d1 rfl
  have s2 := cell_heap (j := 2) d1 rfl
  have s3 := cell_heap (j := 3) d1 rfl
  have o0 := cell_heap (j := 0) d2 rfl
  have o1 := cell_heap (j := 1) d2 rfl
  have o2 := cell_heap (j := 2) d2 rfl
  have o3 := cell_heap (j := 3) d2 rfl
  have f0 := frozen_pa d2 0
  have f1 := frozen_pa d2 1
  have f2 := frozen_pa d2 2
  have f3 := frozen_pa d2 3
  clear d0 d1 d2
  go_wp2_with fail
  exact bodyPost_ret (v := .tuple #[.agg #[.bool true, .bool true, .int .i64 t, .bool false], .int .i64 0]) (by simp [results, Try.results60, go_sem, *]) rfl ⟨rfl, by repeat (first | exact B2.out | refine Below.setCell ?_ (by simp <;> omega) _ | refine below_al ?_ _)⟩
set_option maxRecDepth 100000 in
set_option maxHeartbeats 4000000 in
theorem index_2tf (A : Option Addr) (n c : Nat) (B : Option Addr) (m d : Nat) (x : Nat → Int) (t tick at_ : Int) (ht : ¬ tick < t) (w : World) (HL : Hid (∀ W : World, Calls Try.prog 65 #[.agg #[.slice A n c, .slice B m d, .int .i64 (x 0), .int .i64 (x 1), .int .i64 (x 2), .int .i64 (x 3), .int .i64 (x 4), .int .i64 (x 5)], .int .i64 at_] W fun e w' => e = .returned (.int .i64 2) ∧ Below W.heap.size W w')) :
    Calls Try.prog 60 #[.agg #[.slice A n c, .slice B m d, .int .i64 (x 0), .int .i64 (x 1), .int .i64 (x 2), .int .i64 (x 3), .int .i64 (x 4), .int .i64 (x 5)], .agg #[.bool true, .bool false, .int .i64 t, .bool false], .int .i64 tick, .int .i64 at_] w fun e w' => e = .returned (.tuple #[.agg #[.bool true, .bool true, .int .i64 (wrap64 (tick + x 5)), .bool false], .int .i64 2]) ∧ Below w.heap.size w w' := by
  have hmf : ∀ (fn : Fn) (first cap : Array Value) (w : World), (Instr.makeFunc fn first cap).run Try.prog w = .ok (.func fn first cap) w := fun _ _ _ _ => rfl
  have h0 : (((w.alloc (.cells #[.slice A n c, .slice B m d, .int .i64 (x 0), .int .i64 (x 1), .int .i64 (x 2), .int .i64 (x 3), .int .i64 (x 4), .int .i64 (x 5)] 35)).alloc (.cells #[.bool true, .bool false, .int .i64 t, .bool false] 87)).alloc (.cells #[.bool false, .bool false, .int .i64 0, .bool false] 87)).heap[w.heap.size]? = some (.cells #[.slice A n c, .slice B m d, .int .i64 (x 0), .int .i64 (x 1), .int .i64 (x 2), .int .i64 (x 3), .int .i64 (x 4), .int .i64 (x 5)] 35 (0, 0)) := alloc_old _ (alloc_old _ (heap_new _ _))
  have h1 : (((w.alloc (.cells #[.slice A n c, .slice B m d, .int .i64 (x 0), .int .i64 (x 1), .int .i64 (x 2), .int .i64 (x 3), .int .i64 (x 4), .int .i64 (x 5)] 35)).alloc (.cells #[.bool true, .bool false, .int .i64 t, .bool false] 87)).alloc (.cells #[.bool false, .bool false, .int .i64 0, .bool false] 87)).heap[w.heap.size + 1]? = some (.cells #[.bool true, .bool false, .int .i64 t, .bool false] 87 (0, 0)) := alloc_old _ (alloc_new _ (by simp))
  have h2 : (((w.alloc (.cells #[.slice A n c, .slice B m d, .int .i64 (x 0), .int .i64 (x 1), .int .i64 (x 2), .int .i64 (x 3), .int .i64 (x 4), .int .i64 (x 5)] 35)).alloc (.cells #[.bool true, .bool false, .int .i64 t, .bool false] 87)).alloc (.cells #[.bool false, .bool false, .int .i64 0, .bool false] 87)).heap[w.heap.size + 1 + 1]? = some (.cells #[.bool false, .bool false, .int .i64 0, .bool false] 87 (0, 0)) := alloc_new _ (by simp)
  have K0 := Lib.hid h0
  have K1 := Lib.hid h1
  have K2 := Lib.hid h2
  clear h0 h1 h2
  have HH := Lib.hid (fun W => halted_any true false false t tick W)
  rw [show haltedB t false tick = false by simp [haltedB]; omega] at HH
  have heq : ∀ W : World, (Op.equalIn 10000 85 (.agg #[.bool true, .bool false]) (.agg #[.bool true, .bool true])).run Try.prog W = .ok false W := fun _ => by kernel_rfl
  go_enter Try.func60, Try.ntmps60
  go_wp2_with fail
  refine (HL.out _).mono ?_
  rintro e w1 ⟨rfl, hb1⟩
  have g0 := block_keep hb1 (lt_of_heap K0.out) K0.out
  have g1 := block_keep hb1 (lt_of_heap K1.out) K1.out
  have g2 := block_keep hb1 (lt_of_heap K2.out) K2.out
  have B1 := Lib.hid (below_all (below_al (below_al (below_al (Below.refl w.heap.size w) _) _) _) hb1 : Below w.heap.size w w1)
  clear hb1 K0 K1 K2
  have s0 := cell_heap (j := 0) g1 rfl
  have s1 := cell_heap (j := 1) g1 rfl
  have s2 := cell_heap (j := 2) g1 rfl
  have s3 := cell_heap (j := 3) g1 rfl
  have G0 := Lib.hid g0
  have G1 := Lib.hid g1
  have G2 := Lib.hid g2
  clear g0 g1 g2
  go_wp2_with fail
  refine (HH.out _).mono ?_
  rintro e w2 ⟨rfl, hb2⟩
  have d0 := block_keep hb2 (lt_of_heap G0.out) G0.out
  have d1 := block_keep hb2 (lt_of_heap G1.out) G1.out
  have d2 := block_keep hb2 (lt_of_heap G2.out) G2.out
  have B2 := Lib.hid (below_all B1.out hb2)
  clear hb2 G0 G1 G2 s0 s1 s2 s3
  have s0 := cell_heap (j := 0) d1 rfl
  have s1 := cell_heap (j := 1) d1 rfl
  have s2 := cell_heap (j := 2) d1 rfl
  have s3 := cell_heap (j := 3) d1 rfl
  have G2 := Lib.hid d2
  go_wp2_with (refine wpList_load_blk 35 _ rfl rfl _ rfl 35 _ _ _ d0 Try.underlying35 rfl (by kernel_rfl) ?_)
  refine (halt2_any A n c B m d x true false false t tick _).mono ?_
  rintro e w3 ⟨rfl, hb3⟩
  have e2 := block_keep hb3 (lt_of_heap G2.out) G2.out
  have B3 := Lib.hid (below_all B2.out hb3)
  clear hb3 d0 d1 d2
  have o0 := cell_heap (j := 0) e2 rfl
  have o1 := cell_heap (j := 1) e2 rfl
  have o2 := cell_heap (j := 2) e2 rfl
  have o3 := cell_heap (j := 3) e2 rfl
  have f0 := frozen_pa e2 0
  have f1 := frozen_pa e2 1
  have f2 := frozen_pa e2 2
  have f3 := frozen_pa e2 3
  clear e2
  go_wp2_with fail
  exact bodyPost_ret (v := .tuple #[.agg #[.bool true, .bool true, .int .i64 (wrap64 (tick + x 5)), .bool false], .int .i64 2]) (by simp [results, Try.results60, go_sem, *]) rfl ⟨rfl, by repeat (first | exact B3.out | refine Below.setCell ?_ (by simp <;> omega) _ | refine below_al ?_ _)⟩
set_option maxRecDepth 100000 in
set_option maxHeartbeats 4000000 in
theorem index_2ft (A : Option Addr) (n c : Nat) (B : Option Addr) (m d : Nat) (x : Nat → Int) (t tick at_ : Int) (ht : ¬ tick < t) (w : World) (HL : Hid (∀ W : World, Calls Try.prog 65 #[.agg #[.slice A n c, .slice B m d, .int .i64 (x 0), .int .i64 (x 1), .int .i64 (x 2), .int .i64 (x 3), .int .i64 (x 4), .int .i64 (x 5)], .int .i64 at_] W fun e w' => e = .returned (.int .i64 2) ∧ Below W.heap.size W w')) :
    Calls Try.prog 60 #[.agg #[.slice A n c, .slice B m d, .int .i64 (x 0), .int .i64 (x 1), .int .i64 (x 2), .int .i64 (x 3), .int .i64 (x 4), .int .i64 (x 5)], .agg #[.bool false, .bool true, .int .i64 t, .bool false], .int .i64 tick, .int .i64 at_] w fun e w' => e = .returned (.tuple #[.agg #[.bool true, .bool true, .int .i64 (wrap64 (tick + x 4)), .bool false], .int .i64 1]) ∧ Below w.heap.size w w' := by
  have hmf : ∀ (fn : Fn) (first cap : Array Value) (w : World), (Instr.makeFunc fn first cap).run Try.prog w = .ok (.func fn first cap) w := fun _ _ _ _ => rfl
  have h0 : (((w.alloc (.cells #[.slice A n c, .slice B m d, .int .i64 (x 0), .int .i64 (x 1), .int .i64 (x 2), .int .i64 (x 3), .int .i64 (x 4), .int .i64 (x 5)] 35)).alloc (.cells #[.bool false, .bool true, .int .i64 t, .bool false] 87)).alloc (.cells #[.bool false, .bool false, .int .i64 0, .bool false] 87)).heap[w.heap.size]? = some (.cells #[.slice A n c, .slice B m d, .int .i64 (x 0), .int .i64 (x 1), .int .i64 (x 2), .int .i64 (x 3), .int .i64 (x 4), .int .i64 (x 5)] 35 (0, 0)) := alloc_old _ (alloc_old _ (heap_new _ _))
  have h1 : (((w.alloc (.cells #[.slice A n c, .slice B m d, .int .i64 (x 0), .int .i64 (x 1), .int .i64 (x 2), .int .i64 (x 3), .int .i64 (x 4), .int .i64 (x 5)] 35)).alloc (.cells #[.bool false, .bool true, .int .i64 t, .bool false] 87)).alloc (.cells #[.bool false, .bool false, .int .i64 0, .bool false] 87)).heap[w.heap.size + 1]? = some (.cells #[.bool false, .bool true, .int .i64 t, .bool false] 87 (0, 0)) := alloc_old _ (alloc_new _ (by simp))
  have h2 : (((w.alloc (.cells #[.slice A n c, .slice B m d, .int .i64 (x 0), .int .i64 (x 1), .int .i64 (x 2), .int .i64 (x 3), .int .i64 (x 4), .int .i64 (x 5)] 35)).alloc (.cells #[.bool false, .bool true, .int .i64 t, .bool false] 87)).alloc (.cells #[.bool false, .bool false, .int .i64 0, .bool false] 87)).heap[w.heap.size + 1 + 1]? = some (.cells #[.bool false, .bool false, .int .i64 0, .bool false] 87 (0, 0)) := alloc_new _ (by simp)
  have K0 := Lib.hid h0
  have K1 := Lib.hid h1
  have K2 := Lib.hid h2
  clear h0 h1 h2
  have HH := Lib.hid (fun W => halted_any false true false t tick W)
  rw [show haltedB t false tick = false by simp [haltedB]; omega] at HH
  have heq : ∀ W : World, (Op.equalIn 10000 85 (.agg #[.bool false, .bool true]) (.agg #[.bool true, .bool true])).run Try.prog W = .ok false W := fun _ => by kernel_rfl
  go_enter Try.func60, Try.ntmps60
  go_wp2_with fail
  refine (HL.out _).mono ?_
  rintro e w1 ⟨rfl, hb1⟩
  have g0 := block_keep hb1 (lt_of_heap K0.out) K0.out
  have g1 := block_keep hb1 (lt_of_heap K1.out) K1.out
  have g2 := block_keep hb1 (lt_of_heap K2.out) K2.out
  have B1 := Lib.hid (below_all (below_al (below_al (below_al (Below.refl w.heap.size w) _) _) _) hb1 : Below w.heap.size w w1)
  clear hb1 K0 K1 K2
  have s0 := cell_heap (j := 0) g1 rfl
  have s1 := cell_heap (j := 1) g1 rfl
  have s2 := cell_heap (j := 2) g1 rfl
  have s3 := cell_heap (j := 3) g1 rfl
  have G0 := Lib.hid g0
  have G1 := Lib.hid g1
  have G2 := Lib.hid g2
  clear g0 g1 g2
  go_wp2_with fail
  refine (HH.out _).mono ?_
  rintro e w2 ⟨rfl, hb2⟩
  have d0 := block_keep hb2 (lt_of_heap G0.out) G0.out
  have d1 := block_keep hb2 (lt_of_heap G1.out) G1.out
  have d2 := block_keep hb2 (lt_of_heap G2.out) G2.out
  have B2 := Lib.hid (below_all B1.out hb2)
  clear hb2 G0 G1 G2 s0 s1 s2 s3
  have s0 := cell_heap (j := 0) d1 rfl
  have s1 := cell_heap (j := 1) d1 rfl
  have s2 := cell_heap (j := 2) d1 rfl
  have s3 := cell_heap (j := 3) d1 rfl
  have G2 := Lib.hid d2
  go_wp2_with (refine wpList_load_blk 35 _ rfl rfl _ rfl 35 _ _ _ d0 Try.underlying35 rfl (by kernel_rfl) ?_)
  refine (halt1_any A n c B m d x false true false t tick _).mono ?_
  rintro e w3 ⟨rfl, hb3⟩
  have e2 := block_keep hb3 (lt_of_heap G2.out) G2.out
  have B3 := Lib.hid (below_all B2.out hb3)
  clear hb3 d0 d1 d2
  have o0 := cell_heap (j := 0) e2 rfl
  have o1 := cell_heap (j := 1) e2 rfl
  have o2 := cell_heap (j := 2) e2 rfl
  have o3 := cell_heap (j := 3) e2 rfl
  have f0 := frozen_pa e2 0
  have f1 := frozen_pa e2 1
  have f2 := frozen_pa e2 2
  have f3 := frozen_pa e2 3
  clear e2
  go_wp2_with fail
  exact bodyPost_ret (v := .tuple #[.agg #[.bool true, .bool true, .int .i64 (wrap64 (tick + x 4)), .bool false], .int .i64 1]) (by simp [results, Try.results60, go_sem, *]) rfl ⟨rfl, by repeat (first | exact B3.out | refine Below.setCell ?_ (by simp <;> omega) _ | refine below_al ?_ _)⟩
set_option maxRecDepth 100000 in
set_option maxHeartbeats 4000000 in
theorem index_2ff (A : Option Addr) (n c : Nat) (B : Option Addr) (m d : Nat) (x : Nat → Int) (t tick at_ : Int) (ht : ¬ tick < t) (w : World) (HL : Hid (∀ W : World, Calls Try.prog 65 #[.agg #[.slice A n c, .slice B m d, .int .i64 (x 0), .int .i64 (x 1), .int .i64 (x 2), .int .i64 (x 3), .int .i64 (x 4), .int .i64 (x 5)], .int .i64 at_] W fun e w' => e = .returned (.int .i64 2) ∧ Below W.heap.size W w')) :
    Calls Try.prog 60 #[.agg #[.slice A n c, .slice B m d, .int .i64 (x 0), .int .i64 (x 1), .int .i64 (x 2), .int .i64 (x 3), .int .i64 (x 4), .int .i64 (x 5)], .agg #[.bool false, .bool false, .int .i64 t, .bool false], .int .i64 tick, .int .i64 at_] w fun e w' => e = .returned (.tuple #[.agg #[.bool true, .bool true, .int .i64 (wrap64 (tick + x 5)), .bool false], .int .i64 2]) ∧ Below w.heap.size w w' := by
  have hmf : ∀ (fn : Fn) (first cap : Array Value) (w : World), (Instr.makeFunc fn first cap).run Try.prog w = .ok (.func fn first cap) w := fun _ _ _ _ => rfl
  have h0 : (((w.alloc (.cells #[.slice A n c, .slice B m d, .int .i64 (x 0), .int .i64 (x 1), .int .i64 (x 2), .int .i64 (x 3), .int .i64 (x 4), .int .i64 (x 5)] 35)).alloc (.cells #[.bool false, .bool false, .int .i64 t, .bool false] 87)).alloc (.cells #[.bool false, .bool false, .int .i64 0, .bool false] 87)).heap[w.heap.size]? = some (.cells #[.slice A n c, .slice B m d, .int .i64 (x 0), .int .i64 (x 1), .int .i64 (x 2), .int .i64 (x 3), .int .i64 (x 4), .int .i64 (x 5)] 35 (0, 0)) := alloc_old _ (alloc_old _ (heap_new _ _))
  have h1 : (((w.alloc (.cells #[.slice A n c, .slice B m d, .int .i64 (x 0), .int .i64 (x 1), .int .i64 (x 2), .int .i64 (x 3), .int .i64 (x 4), .int .i64 (x 5)] 35)).alloc (.cells #[.bool false, .bool false, .int .i64 t, .bool false] 87)).alloc (.cells #[.bool false, .bool false, .int .i64 0, .bool false] 87)).heap[w.heap.size + 1]? = some (.cells #[.bool false, .bool false, .int .i64 t, .bool false] 87 (0, 0)) := alloc_old _ (alloc_new _ (by simp))
  have h2 : (((w.alloc (.cells #[.slice A n c, .slice B m d, .int .i64 (x 0), .int .i64 (x 1), .int .i64 (x 2), .int .i64 (x 3), .int .i64 (x 4), .int .i64 (x 5)] 35)).alloc (.cells #[.bool false, .bool false, .int .i64 t, .bool false] 87)).alloc (.cells #[.bool false, .bool false, .int .i64 0, .bool false] 87)).heap[w.heap.size + 1 + 1]? = some (.cells #[.bool false, .bool false, .int .i64 0, .bool false] 87 (0, 0)) := alloc_new _ (by simp)
  have K0 := Lib.hid h0
  have K1 := Lib.hid h1
  have K2 := Lib.hid h2
  clear h0 h1 h2
  have HH := Lib.hid (fun W => halted_any false false false t tick W)
  rw [show haltedB t false tick = false by simp [haltedB]; omega] at HH
  have heq : ∀ W : World, (Op.equalIn 10000 85 (.agg #[.bool false, .bool false]) (.agg #[.bool true, .bool true])).run Try.prog W = .ok false W := fun _ => by kernel_rfl
  go_enter Try.func60, Try.ntmps60
  go_wp2_with fail
  refine (HL.out _).mono ?_
  rintro e w1 ⟨rfl, hb1⟩
  have g0 := block_keep hb1 (lt_of_heap K0.out) K0.out
  have g1 := block_keep hb1 (lt_of_heap K1.out) K1.out
  have g2 := block_keep hb1 (lt_of_heap K2.out) K2.out
  have B1 := Lib.hid (below_all (below_al (below_al (below_al (Below.refl w.heap.size w) _) _) _) hb1 : Below w.heap.size w w1)
  clear hb1 K0 K1 K2
  have s0 := cell_heap (j := 0) g1 rfl
  have s1 := cell_heap (j := 1) g1 rfl
  have s2 := cell_heap (j := 2) g1 rfl
  have s3 := cell_heap (j := 3) g1 rfl
  have G0 := Lib.hid g0
  have G1 := Lib.hid g1
  have G2 := Lib.hid g2
  clear g0 g1 g2
  go_wp2_with fail
  refine (HH.out _).mono ?_
  rintro e w2 ⟨rfl, hb2⟩
  have d0 := block_keep hb2 (lt_of_heap G0.out) G0.out
  have d1 := block_keep hb2 (lt_of_heap G1.out) G1.out
  have d2 := block_keep hb2 (lt_of_heap G2.out) G2.out
  have B2 := Lib.hid (below_all B1.out hb2)
  clear hb2 G0 G1 G2 s0 s1 s2 s3
  have s0 := cell_heap (j := 0) d1 rfl
  have s1 := cell_heap (j := 1) d1 rfl
  have s2 := cell_heap (j := 2) d1 rfl
  have s3 := cell_heap (j := 3) d1 rfl
  have G2 := Lib.hid d2
  go_wp2_with (refine wpList_load_blk 35 _ rfl rfl _ rfl 35 _ _ _ d0 Try.underlying35 rfl (by kernel_rfl) ?_)
  refine (halt2_any A n c B m d x false false false t tick _).mono ?_
  rintro e w3 ⟨rfl, hb3⟩
  have e2 := block_keep hb3 (lt_of_heap G2.out) G2.out
  have B3 := Lib.hid (below_all B2.out hb3)
  clear hb3 d0 d1 d2
  have o0 := cell_heap (j := 0) e2 rfl
  have o1 := cell_heap (j := 1) e2 rfl
  have o2 := cell_heap (j := 2) e2 rfl
  have o3 := cell_heap (j := 3) e2 rfl
  have f0 := frozen_pa e2 0
  have f1 := frozen_pa e2 1
  have f2 := frozen_pa e2 2
  have f3 := frozen_pa e2 3
  clear e2
  go_wp2_with fail
  exact bodyPost_ret (v := .tuple #[.agg #[.bool true, .bool true, .int .i64 (wrap64 (tick + x 5)), .bool false], .int .i64 2]) (by simp [results, Try.results60, go_sem, *]) rfl ⟨rfl, by repeat (first | exact B3.out | refine Below.setCell ?_ (by simp <;> omega) _ | refine below_al ?_ _)⟩

end Go.Proofs.Ythhkcckikmldcaa
