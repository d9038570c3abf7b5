/-
  Breaker: the contract of halt. (Written by gen_br3.py, a program of this session's own.)
-/
import Derived.Test.YthhkcckikmldcaaBr2
import Derived.Test.YthhkcckikmldcaaPe1
import Derived.Test.YthhkcckikmldcaaLoad
set_option linter.unusedVariables false
set_option linter.unusedSimpArgs false
namespace Go.Proofs.Ythhkcckikmldcaa
open Go.RowKit

set_option maxRecDepth 100000 in
set_option maxHeartbeats 4000000 in
theorem halt1_any (A : Option Addr) (n c : Nat) (B : Option Addr) (m d : Nat) (x : Nat → Int) (u0 u1 sh : Bool) (t tick : Int) (w : World) : Calls Try.prog 111 #[.agg #[.bool u0, .bool u1, .int .i64 t, .bool sh], .agg #[.slice A n c, .slice B m d, .int .i64 (x 0), .int .i64 (x 1), .int .i64 (x 2), .int .i64 (x 3), .int .i64 (x 4), .int .i64 (x 5)], .int .i64 1, .int .i64 tick] w fun e w' => e = .returned (.tuple #[.agg #[.bool true, .bool u1, .int .i64 (wrap64 (tick + x 4)), .bool sh], .int .i64 1]) ∧ Below w.heap.size w w' := by
  have h0 : (((w.alloc (.cells #[.bool u0, .bool u1, .int .i64 t, .bool sh] 87)).alloc (.cells #[.slice A n c, .slice B m d, .int .i64 (x 0), .int .i64 (x 1), .int .i64 (x 2), .int .i64 (x 3), .int .i64 (x 4), .int .i64 (x 5)] 35)).alloc (.cells #[.bool false, .bool false, .int .i64 0, .bool false] 87)).heap[w.heap.size]? = some (.cells #[.bool u0, .bool u1, .int .i64 t, .bool sh] 87 (0, 0)) := alloc_old _ (alloc_old _ (heap_new _ _))
  have h1 : (((w.alloc (.cells #[.bool u0, .bool u1, .int .i64 t, .bool sh] 87)).alloc (.cells #[.slice A n c, .slice B m d, .int .i64 (x 0), .int .i64 (x 1), .int .i64 (x 2), .int .i64 (x 3), .int .i64 (x 4), .int .i64 (x 5)] 35)).alloc (.cells #[.bool false, .bool false, .int .i64 0, .bool false] 87)).heap[w.heap.size + 1]? = some (.cells #[.slice A n c, .slice B m d, .int .i64 (x 0), .int .i64 (x 1), .int .i64 (x 2), .int .i64 (x 3), .int .i64 (x 4), .int .i64 (x 5)] 35 (0, 0)) := alloc_old _ (alloc_new _ (by simp))
  have h2 : (((w.alloc (.cells #[.bool u0, .bool u1, .int .i64 t, .bool sh] 87)).alloc (.cells #[.slice A n c, .slice B m d, .int .i64 (x 0), .int .i64 (x 1), .int .i64 (x 2), .int .i64 (x 3), .int .i64 (x 4), .int .i64 (x 5)] 35)).alloc (.cells #[.bool false, .bool false, .int .i64 0, .bool false] 87)).heap[w.heap.size + 1 + 1]? = some (.cells #[.bool false, .bool false, .int .i64 0, .bool false] 87 (0, 0)) := alloc_new _ (by simp)
  have K0 := Lib.hid h0
  have K1 := Lib.hid h1
  have K2 := Lib.hid h2
  have KB := Lib.hid (below_al (below_al (below_al (Below.refl w.heap.size w) (.cells #[.bool u0, .bool u1, .int .i64 t, .bool sh] 87)) (.cells #[.slice A n c, .slice B m d, .int .i64 (x 0), .int .i64 (x 1), .int .i64 (x 2), .int .i64 (x 3), .int .i64 (x 4), .int .i64 (x 5)] 35)) (.cells #[.bool false, .bool false, .int .i64 0, .bool false] 87))
  clear h0 h1 h2
  have hgen : ∀ W0 : World, W0 = (((w.alloc (.cells #[.bool u0, .bool u1, .int .i64 t, .bool sh] 87)).alloc (.cells #[.slice A n c, .slice B m d, .int .i64 (x 0), .int .i64 (x 1), .int .i64 (x 2), .int .i64 (x 3), .int .i64 (x 4), .int .i64 (x 5)] 35)).alloc (.cells #[.bool false, .bool false, .int .i64 0, .bool false] 87)) → W0 = W0 := fun _ _ => rfl
  clear hgen
  go_enter Try.func111, Try.ntmps111
  go_wp2_with fail
  go_loopg [12] 1 (fun gg s12 wr => ∃ (k : Nat), k ≤ 1 ∧ 1 - k ≤ gg ∧ s12 = .int .i64 k ∧ Hid (Below w.heap.size w wr) ∧ Hid (wr.heap[w.heap.size + 1]? = some (.cells #[.slice A n c, .slice B m d, .int .i64 (x 0), .int .i64 (x 1), .int .i64 (x 2), .int .i64 (x 3), .int .i64 (x 4), .int .i64 (x 5)] 35 (0, 0))) ∧ Hid (wr.heap[w.heap.size + 1 + 1]? = some (.cells #[.bool false, .bool false, .int .i64 0, .bool false] 87 (0, 0))) ∧ Hid ((k = 0 → wr.heap[w.heap.size]? = some (.cells #[.bool u0, .bool u1, .int .i64 t, .bool sh] 87 (0, 0))) ∧ (k = 1 → wr.heap[w.heap.size]? = some (.cells #[.bool true, .bool u1, .int .i64 t, .bool sh] 87 (0, 0)))))
  case atStart => exact ⟨0, by omega, by omega, rfl, KB.out, K1.out, K2.out, Lib.hid (by refine ⟨fun _ => K0.out, ?_⟩; simp)⟩
  case round =>
    obtain ⟨k, hk, hg, rfl, BW, L1, L2, I⟩ := hrel
    rcases (by omega : k = 0 ∨ k = 1) with rfl | rfl
    · have j0 := I.out.1 rfl
      have z0 := Lib.hid j0
      have n0 := cell_heap (j := 0) j0 rfl
      have m0 := frozen_pa j0 0
      clear I j0
      go_wp2_with fail
      go_roundg 0
      case measure => omega
      case rel =>
        refine ⟨1, by omega, by omega, by first | rfl | go_num, ?_, ?_, ?_, ?_⟩
        · exact Lib.hid (Below.setCell BW.out (by simp) _)
        · exact Lib.hid (heap_setOther L1.out (by simp) _ _)
        · exact Lib.hid (heap_setOther L2.out (by omega) _ _)
        · exact Lib.hid (by simpa using heap_setSame z0.out 0 (.bool true))
    · have j0 := I.out.2 rfl
      have j1 := L1.out
      have J2 := L2
      clear I
      go_wp2_with (first | (refine wpList_load_blk 35 _ rfl rfl _ rfl 35 _ _ _ j1 Try.underlying35 rfl (by kernel_rfl) ?_) | (refine wpList_load_blk 87 _ rfl rfl _ rfl 87 _ _ _ j0 Try.underlying87 rfl (by kernel_rfl) ?_))
      refine (span1_any A n c B m d x _).mono ?_
      rintro e w1 ⟨rfl, hb1⟩
      have z0 := block_keep hb1 (lt_of_heap j0) j0
      have z2 := block_keep hb1 (lt_of_heap J2.out) J2.out
      have B1 := Lib.hid (below_all BW.out hb1)
      have n0 := cell_heap (j := 0) z0 rfl
      have n1 := cell_heap (j := 1) z0 rfl
      have n2 := cell_heap (j := 2) z0 rfl
      have n3 := cell_heap (j := 3) z0 rfl
      have m0 := frozen_pa z0 2
      have o0 := cell_heap (j := 0) z2 rfl
      have o1 := cell_heap (j := 1) z2 rfl
      have o2 := cell_heap (j := 2) z2 rfl
      have o3 := cell_heap (j := 3) z2 rfl
      have p0 := frozen_pa z2 0
      have p1 := frozen_pa z2 1
      have p2 := frozen_pa z2 2
      have p3 := frozen_pa z2 3
      clear hb1 j0 j1 z0 z2
      go_wp2_with fail
      exact bodyPost_ret (v := .tuple #[.agg #[.bool true, .bool u1, .int .i64 (wrap64 (tick + x 4)), .bool sh], .int .i64 1]) (by simp [results, Try.results111, go_sem, *]) rfl ⟨rfl, by repeat (first | exact B1.out | refine Below.setCell ?_ (by simp <;> omega) _ | refine below_al ?_ _)⟩

set_option maxRecDepth 100000 in
set_option maxHeartbeats 4000000 in
theorem halt2_any (A : Option Addr) (n c : Nat) (B : Option Addr) (m d : Nat) (x : Nat → Int) (u0 u1 sh : Bool) (t tick : Int) (w : World) : Calls Try.prog 111 #[.agg #[.bool u0, .bool u1, .int .i64 t, .bool sh], .agg #[.slice A n c, .slice B m d, .int .i64 (x 0), .int .i64 (x 1), .int .i64 (x 2), .int .i64 (x 3), .int .i64 (x 4), .int .i64 (x 5)], .int .i64 2, .int .i64 tick] w fun e w' => e = .returned (.tuple #[.agg #[.bool true, .bool true, .int .i64 (wrap64 (tick + x 5)), .bool sh], .int .i64 2]) ∧ Below w.heap.size w w' := by
  have h0 : (((w.alloc (.cells #[.bool u0, .bool u1, .int .i64 t, .bool sh] 87)).alloc (.cells #[.slice A n c, .slice B m d, .int .i64 (x 0), .int .i64 (x 1), .int .i64 (x 2), .int .i64 (x 3), .int .i64 (x 4), .int .i64 (x 5)] 35)).alloc (.cells #[.bool false, .bool false, .int .i64 0, .bool false] 87)).heap[w.heap.size]? = some (.cells #[.bool u0, .bool u1, .int .i64 t, .bool sh] 87 (0, 0)) := alloc_old _ (alloc_old _ (heap_new _ _))
  have h1 : (((w.alloc (.cells #[.bool u0, .bool u1, .int .i64 t, .bool sh] 87)).alloc (.cells #[.slice A n c, .slice B m d, .int .i64 (x 0), .int .i64 (x 1), .int .i64 (x 2), .int .i64 (x 3), .int .i64 (x 4), .int .i64 (x 5)] 35)).alloc (.cells #[.bool false, .bool false, .int .i64 0, .bool false] 87)).heap[w.heap.size + 1]? = some (.cells #[.slice A n c, .slice B m d, .int .i64 (x 0), .int .i64 (x 1), .int .i64 (x 2), .int .i64 (x 3), .int .i64 (x 4), .int .i64 (x 5)] 35 (0, 0)) := alloc_old _ (alloc_new _ (by simp))
  have h2 : (((w.alloc (.cells #[.bool u0, .bool u1, .int .i64 t, .bool sh] 87)).alloc (.cells #[.slice A n c, .slice B m d, .int .i64 (x 0), .int .i64 (x 1), .int .i64 (x 2), .int .i64 (x 3), .int .i64 (x 4), .int .i64 (x 5)] 35)).alloc (.cells #[.bool false, .bool false, .int .i64 0, .bool false] 87)).heap[w.heap.size + 1 + 1]? = some (.cells #[.bool false, .bool false, .int .i64 0, .bool false] 87 (0, 0)) := alloc_new _ (by simp)
  have K0 := Lib.hid h0
  have K1 := Lib.hid h1
  have K2 := Lib.hid h2
  have KB := Lib.hid (below_al (below_al (below_al (Below.refl w.heap.size w) (.cells #[.bool u0, .bool u1, .int .i64 t, .bool sh] 87)) (.cells #[.slice A n c, .slice B m d, .int .i64 (x 0), .int .i64 (x 1), .int .i64 (x 2), .int .i64 (x 3), .int .i64 (x 4), .int .i64 (x 5)] 35)) (.cells #[.bool false, .bool false, .int .i64 0, .bool false] 87))
  clear h0 h1 h2
  have hgen : ∀ W0 : World, W0 = (((w.alloc (.cells #[.bool u0, .bool u1, .int .i64 t, .bool sh] 87)).alloc (.cells #[.slice A n c, .slice B m d, .int .i64 (x 0), .int .i64 (x 1), .int .i64 (x 2), .int .i64 (x 3), .int .i64 (x 4), .int .i64 (x 5)] 35)).alloc (.cells #[.bool false, .bool false, .int .i64 0, .bool false] 87)) → W0 = W0 := fun _ _ => rfl
  clear hgen
  go_enter Try.func111, Try.ntmps111
  go_wp2_with fail
  go_loopg [12] 2 (fun gg s12 wr => ∃ (k : Nat), k ≤ 2 ∧ 2 - k ≤ gg ∧ s12 = .int .i64 k ∧ Hid (Below w.heap.size w wr) ∧ Hid (wr.heap[w.heap.size + 1]? = some (.cells #[.slice A n c, .slice B m d, .int .i64 (x 0), .int .i64 (x 1), .int .i64 (x 2), .int .i64 (x 3), .int .i64 (x 4), .int .i64 (x 5)] 35 (0, 0))) ∧ Hid (wr.heap[w.heap.size + 1 + 1]? = some (.cells #[.bool false, .bool false, .int .i64 0, .bool false] 87 (0, 0))) ∧ Hid ((k = 0 → wr.heap[w.heap.size]? = some (.cells #[.bool u0, .bool u1, .int .i64 t, .bool sh] 87 (0, 0))) ∧ (k = 1 → wr.heap[w.heap.size]? = some (.cells #[.bool true, .bool u1, .int .i64 t, .bool sh] 87 (0, 0))) ∧ (k = 2 → wr.heap[w.heap.size]? = some (.cells #[.bool true, .bool true, .int .i64 t, .bool sh] 87 (0, 0)))))
  case atStart => exact ⟨0, by omega, by omega, rfl, KB.out, K1.out, K2.out, Lib.hid (by refine ⟨fun _ => K0.out, ?_⟩; simp)⟩
  case round =>
    obtain ⟨k, hk, hg, rfl, BW, L1, L2, I⟩ := hrel
    rcases (by omega : k = 0 ∨ k = 1 ∨ k = 2) with rfl | rfl | rfl
    · have j0 := I.out.1 rfl
      have z0 := Lib.hid j0
      have n0 := cell_heap (j := 0) j0 rfl
      have m0 := frozen_pa j0 0
      clear I j0
      go_wp2_with fail
      go_roundg 1
      case measure => omega
      case rel =>
        refine ⟨1, by omega, by omega, by first | rfl | go_num, ?_, ?_, ?_, ?_⟩
        · exact Lib.hid (Below.setCell BW.out (by simp) _)
        · exact Lib.hid (heap_setOther L1.out (by simp) _ _)
        · exact Lib.hid (heap_setOther L2.out (by omega) _ _)
        · exact Lib.hid (by simpa using heap_setSame z0.out 0 (.bool true))
    · have j0 := I.out.2.1 rfl
      have z0 := Lib.hid j0
      have n0 := cell_heap (j := 1) j0 rfl
      have m0 := frozen_pa j0 1
      clear I j0
      go_wp2_with fail
      go_roundg 0
      case measure => omega
      case rel =>
        refine ⟨2, by omega, by omega, by first | rfl | go_num, ?_, ?_, ?_, ?_⟩
        · exact Lib.hid (Below.setCell BW.out (by simp) _)
        · exact Lib.hid (heap_setOther L1.out (by simp) _ _)
        · exact Lib.hid (heap_setOther L2.out (by omega) _ _)
        · exact Lib.hid (by simpa using heap_setSame z0.out 1 (.bool true))
    · have j0 := I.out.2.2 rfl
      have j1 := L1.out
      have J2 := L2
      clear I
      go_wp2_with (first | (refine wpList_load_blk 35 _ rfl rfl _ rfl 35 _ _ _ j1 Try.underlying35 rfl (by kernel_rfl) ?_) | (refine wpList_load_blk 87 _ rfl rfl _ rfl 87 _ _ _ j0 Try.underlying87 rfl (by kernel_rfl) ?_))
      refine (span2_any A n c B m d x _).mono ?_
      rintro e w1 ⟨rfl, hb1⟩
      have z0 := block_keep hb1 (lt_of_heap j0) j0
      have z2 := block_keep hb1 (lt_of_heap J2.out) J2.out
      have B1 := Lib.hid (below_all BW.out hb1)
      have n0 := cell_heap (j := 0) z0 rfl
      have n1 := cell_heap (j := 1) z0 rfl
      have n2 := cell_heap (j := 2) z0 rfl
      have n3 := cell_heap (j := 3) z0 rfl
      have m0 := frozen_pa z0 2
      have o0 := cell_heap (j := 0) z2 rfl
      have o1 := cell_heap (j := 1) z2 rfl
      have o2 := cell_heap (j := 2) z2 rfl
      have o3 := cell_heap (j := 3) z2 rfl
      have p0 := frozen_pa z2 0
      have p1 := frozen_pa z2 1
      have p2 := frozen_pa z2 2
      have p3 := frozen_pa z2 3
      clear hb1 j0 j1 z0 z2
      go_wp2_with fail
      exact bodyPost_ret (v := .tuple #[.agg #[.bool true, .bool true, .int .i64 (wrap64 (tick + x 5)), .bool sh], .int .i64 2]) (by simp [results, Try.results111, go_sem, *]) rfl ⟨rfl, by repeat (first | exact B1.out | refine Below.setCell ?_ (by simp <;> omega) _ | refine below_al ?_ _)⟩

end Go.Proofs.Ythhkcckikmldcaa
