/-
  The walk of BreakerFalls. (Written by gen_br7.py, a program of this session's own.)
-/
import Derived.Test.YthhkcckikmldcaaBr7
import Derived.Deep.RegionHeld3
set_option linter.unusedVariables false
set_option linter.unusedSimpArgs false
namespace Go.Proofs.Ythhkcckikmldcaa
open Go.RowKit

set_option maxRecDepth 100000 in
set_option maxHeartbeats 8000000 in
theorem walkBreakerFalls (w : World) (A : Option Addr) (n c : Nat) (B : Option Addr) (m d : Nat) (S R : Nat → Nat → Int) (x : Nat → Int) (h : CfgIn w A n c B m d S R x) (a : Int) (ha : -9223372036854775808 ≤ a ∧ a ≤ 9223372036854775807) (b : Int) (hb : -9223372036854775808 ≤ b ∧ b ≤ 9223372036854775807) :
    Calls Try.prog 15 #[.agg #[.slice A n c, .slice B m d, .int .i64 (x 0), .int .i64 (x 1), .int .i64 (x 2), .int .i64 (x 3), .int .i64 (x 4), .int .i64 (x 5)], .int .i64 a, .int .i64 b] w fun e w' => e = .returned (.bool true) ∧ Below w.heap.size w w' := by
  have BX := below_al (Below.refl w.heap.size w) (.cells #[.slice A n c, .slice B m d, .int .i64 (x 0), .int .i64 (x 1), .int .i64 (x 2), .int .i64 (x 3), .int .i64 (x 4), .int .i64 (x 5)] 35)
  have HR := Lib.hid (right0_any A n c B m d S R x (w.alloc (.cells #[.slice A n c, .slice B m d, .int .i64 (x 0), .int .i64 (x 1), .int .i64 (x 2), .int .i64 (x 3), .int .i64 (x 4), .int .i64 (x 5)] 35)) (h.below BX))
  have K0 := Lib.hid (heap_new w (.cells #[.slice A n c, .slice B m d, .int .i64 (x 0), .int .i64 (x 1), .int .i64 (x 2), .int .i64 (x 3), .int .i64 (x 4), .int .i64 (x 5)] 35))
  have HB := Lib.hid BX
  have ht : rightB n m (chkF n S m R x) = true → TailOk x := fun hr => by
    unfold rightB at hr
    simp only [Bool.and_eq_true, beq_iff_eq] at hr
    exact chk_tail_ok hr.2
  clear h BX
  generalize rightB n m (chkF n S m R x) = r at HR ht
  cases r
  · clear ht
    go_enter Try.func15, Try.ntmps15
    go_wp2_with fail
    refine (HR.out).mono ?_
    rintro e w1 ⟨rfl, hb1⟩
    go_wp2_with fail
    refine (alive23 _).mono ?_
    rintro e w2 ⟨rfl, hb2⟩
    go_wp2_with fail
    go_ret
    exact ⟨rfl, below_all (below_all (below_al (Below.refl _ _) _) hb1) hb2⟩
  · have HT := ht rfl
    clear ht
    by_cases c1 : a < 1
    · clear HT
      go_enter Try.func15, Try.ntmps15
      go_wp2_with fail
      refine (HR.out).mono ?_
      rintro e w1 ⟨rfl, hb1⟩
      go_wp2_with fail
      refine (alive23 _).mono ?_
      rintro e w2 ⟨rfl, hb2⟩
      go_wp2_with fail
      go_ret
      exact ⟨rfl, below_all (below_all (below_al (Below.refl _ _) _) hb1) hb2⟩
    · by_cases c2 : b < a
      · clear HT
        go_enter Try.func15, Try.ntmps15
        go_wp2_with fail
        refine (HR.out).mono ?_
        rintro e w1 ⟨rfl, hb1⟩
        go_wp2_with fail
        refine (alive23 _).mono ?_
        rintro e w2 ⟨rfl, hb2⟩
        go_wp2_with fail
        go_ret
        exact ⟨rfl, below_all (below_all (below_al (Below.refl _ _) _) hb1) hb2⟩
      · by_cases c3 : 1099511627776 < b
        · clear HT
          go_enter Try.func15, Try.ntmps15
          go_wp2_with fail
          refine (HR.out).mono ?_
          rintro e w1 ⟨rfl, hb1⟩
          go_wp2_with fail
          refine (alive23 _).mono ?_
          rintro e w2 ⟨rfl, hb2⟩
          go_wp2_with fail
          go_ret
          exact ⟨rfl, below_all (below_all (below_al (Below.refl _ _) _) hb1) hb2⟩
        · have HLv := Lib.hid (fun (i : Int) (W : World) (hi : Hid (-9223372036854775808 ≤ i ∧ i ≤ 9223372036854775807)) => level_any A n c B m d x i W HT hi.out)
          have ba := Lib.hid ha
          have bb := Lib.hid hb
          have bc : Hid (-9223372036854775808 ≤ x 0 ∧ x 0 ≤ 9223372036854775807) := Lib.hid (by have := HT.1; have := HT.2.1; omega)
          have hc0 := level_self HT
          have hle := level_falls (x := x) (a := a) (b := b) (by omega) (by omega) (by omega)
          have hdle : decide (levelF x b ≤ levelF x a) = true := decide_eq_true hle
          clear HT
          go_enter Try.func15, Try.ntmps15
          go_wp2_with fail
          refine (HR.out).mono ?_
          rintro e w1 ⟨rfl, hb1⟩
          have g0 := block_keep hb1 (lt_of_heap K0.out) K0.out
          have B1 := Lib.hid (below_all HB.out hb1)
          clear hb1 K0
          go_wp2_with fail
          have ra0 : ∀ W : World, W.heap[w.heap.size]? = some (.cells #[.slice A n c, .slice B m d, .int .i64 (x 0), .int .i64 (x 1), .int .i64 (x 2), .int .i64 (x 3), .int .i64 (x 4), .int .i64 (x 5)] 35 (0, 0)) → W.cell? ⟨w.heap.size, 0, none⟩ = some (.slice A n c) := fun W h => cell_heap h rfl
          have ra1 : ∀ W : World, W.heap[w.heap.size]? = some (.cells #[.slice A n c, .slice B m d, .int .i64 (x 0), .int .i64 (x 1), .int .i64 (x 2), .int .i64 (x 3), .int .i64 (x 4), .int .i64 (x 5)] 35 (0, 0)) → W.cell? ⟨w.heap.size, 1, none⟩ = some (.slice B m d) := fun W h => cell_heap h rfl
          have ra2 : ∀ W : World, W.heap[w.heap.size]? = some (.cells #[.slice A n c, .slice B m d, .int .i64 (x 0), .int .i64 (x 1), .int .i64 (x 2), .int .i64 (x 3), .int .i64 (x 4), .int .i64 (x 5)] 35 (0, 0)) → W.cell? ⟨w.heap.size, 2, none⟩ = some (.int .i64 (x 0)) := fun W h => cell_heap h rfl
          have ra3 : ∀ W : World, W.heap[w.heap.size]? = some (.cells #[.slice A n c, .slice B m d, .int .i64 (x 0), .int .i64 (x 1), .int .i64 (x 2), .int .i64 (x 3), .int .i64 (x 4), .int .i64 (x 5)] 35 (0, 0)) → W.cell? ⟨w.heap.size, 3, none⟩ = some (.int .i64 (x 1)) := fun W h => cell_heap h rfl
          have ra4 : ∀ W : World, W.heap[w.heap.size]? = some (.cells #[.slice A n c, .slice B m d, .int .i64 (x 0), .int .i64 (x 1), .int .i64 (x 2), .int .i64 (x 3), .int .i64 (x 4), .int .i64 (x 5)] 35 (0, 0)) → W.cell? ⟨w.heap.size, 4, none⟩ = some (.int .i64 (x 2)) := fun W h => cell_heap h rfl
          have ra5 : ∀ W : World, W.heap[w.heap.size]? = some (.cells #[.slice A n c, .slice B m d, .int .i64 (x 0), .int .i64 (x 1), .int .i64 (x 2), .int .i64 (x 3), .int .i64 (x 4), .int .i64 (x 5)] 35 (0, 0)) → W.cell? ⟨w.heap.size, 5, none⟩ = some (.int .i64 (x 3)) := fun W h => cell_heap h rfl
          have ra6 : ∀ W : World, W.heap[w.heap.size]? = some (.cells #[.slice A n c, .slice B m d, .int .i64 (x 0), .int .i64 (x 1), .int .i64 (x 2), .int .i64 (x 3), .int .i64 (x 4), .int .i64 (x 5)] 35 (0, 0)) → W.cell? ⟨w.heap.size, 6, none⟩ = some (.int .i64 (x 4)) := fun W h => cell_heap h rfl
          have ra7 : ∀ W : World, W.heap[w.heap.size]? = some (.cells #[.slice A n c, .slice B m d, .int .i64 (x 0), .int .i64 (x 1), .int .i64 (x 2), .int .i64 (x 3), .int .i64 (x 4), .int .i64 (x 5)] 35 (0, 0)) → W.cell? ⟨w.heap.size, 7, none⟩ = some (.int .i64 (x 5)) := fun W h => cell_heap h rfl
          have hq : Below w1.heap.size w1 w1 := Below.refl _ _
          go_region_held3 (fun w' => w'.heap[w.heap.size]? = some (.cells #[.slice A n c, .slice B m d, .int .i64 (x 0), .int .i64 (x 1), .int .i64 (x 2), .int .i64 (x 3), .int .i64 (x 4), .int .i64 (x 5)] 35 (0, 0)))
            (first | (go_split_ands; first | assumption | exact block_keep (by assumption) (lt_of_heap (by assumption)) (by assumption)))
            (first | (go_at_call 65; refine (HLv.out _ _ (by assumption)).mono ?_; rintro e w4 ⟨rfl, hqn⟩; first | replace hq := below_all hq hqn | replace hq := below_all hq (⟨hqn.os, hqn.tape, hqn.output, hqn.size, hqn.block⟩ : Below _ w1 w4)) | (go_at_call 59; refine (alive23 _).mono ?_; rintro e w4 ⟨rfl, hqn⟩; first | replace hq := below_all hq hqn | replace hq := below_all hq (⟨hqn.os, hqn.tape, hqn.output, hqn.size, hqn.block⟩ : Below _ w1 w4)))
          go_wp2_with fail
          go_ret
          exact ⟨rfl, below_all B1.out hq⟩

end Go.Proofs.Ythhkcckikmldcaa
