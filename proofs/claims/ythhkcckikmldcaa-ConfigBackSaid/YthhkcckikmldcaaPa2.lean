/-
  Pause: contracts of Shift, Latest, In, Decide, and of the document's. (Written by gen_pa2.py, a program of this session's own.)
-/
import Derived.Test.YthhkcckikmldcaaPa1
import Derived.Test.YthhkcckikmldcaaCfg4
set_option linter.unusedVariables false
set_option linter.unusedSimpArgs false
namespace Go.Proofs.Ythhkcckikmldcaa
open Go.RowKit

theorem frozen_pa {w : World} {B : Nat} {cs : Array Value} {t : TypeId} (h : w.heap[B]? = some (.cells cs t (0, 0))) (j : Nat) : w.frozen? ⟨B, j, none⟩ = false := by
  unfold World.frozen?
  rw [h]
  simp
theorem alloc_oldp {w : World} {k : Nat} {x : Obj} (o : Obj) (h : w.heap[k]? = some x) : (w.alloc o).heap[k]? = some x := by
  have := lt_of_heap h
  rw [Below.heap_alloc _ _ _ this]
  exact h
theorem alloc_newp {w : World} {k : Nat} (o : Obj) (h : k = w.heap.size) : (w.alloc o).heap[k]? = some o := by subst h; exact heap_new w o

/-- The Until of a state that is shifted. -/
def shU (p u by_ : Int) : Int := if goesB p then wrap64 (u + by_) else u
set_option maxHeartbeats 1000000 in
theorem shift_any (p q u by_ : Int) (w : World) : Calls Try.prog 45 #[.agg #[.int .i64 p, .int .i64 q, .int .i64 u], .int .i64 by_] w fun e w' => e = .returned (.agg #[.int .i64 p, .int .i64 q, .int .i64 (shU p u by_)]) ∧ Below w.heap.size w w' := by
  have HC := Lib.hid (goes_any p q u ((w.alloc (.cells #[.int .i64 p, .int .i64 q, .int .i64 u] 61)).alloc (.cells #[.int .i64 0, .int .i64 0, .int .i64 0] 61)))
  cases hg : goesB p
  · have E := Lib.hid (show shU p u by_ = u by unfold shU; rw [hg]; rfl)
    rw [hg] at HC
    rw [E.out]
    clear hg
    go_enter Try.func45, Try.ntmps45
    go_wp2_with fail
    refine (HC.out).mono ?_
    rintro e w1 ⟨rfl, hb⟩
    have b0 : w1.heap[w.heap.size]? = some (.cells #[.int .i64 p, .int .i64 q, .int .i64 u] 61 (0, 0)) := block_keep hb (by simp; omega) (alloc_oldp _ (heap_new _ _))
    have b1 : w1.heap[w.heap.size + 1]? = some (.cells #[.int .i64 0, .int .i64 0, .int .i64 0] 61 (0, 0)) := block_keep hb (by simp) (alloc_newp _ (by simp))
    have c0 := cell_heap (j := 0) b0 rfl
    have z0 := cell_heap (j := 0) b1 rfl
    have f0 := frozen_pa b0 0
    have g0 := frozen_pa b1 0
    have c1 := cell_heap (j := 1) b0 rfl
    have z1 := cell_heap (j := 1) b1 rfl
    have f1 := frozen_pa b0 1
    have g1 := frozen_pa b1 1
    have c2 := cell_heap (j := 2) b0 rfl
    have z2 := cell_heap (j := 2) b1 rfl
    have f2 := frozen_pa b0 2
    have g2 := frozen_pa b1 2
    clear b0 b1
    go_wp2_with fail
    exact bodyPost_ret (v := .agg #[.int .i64 p, .int .i64 q, .int .i64 u]) (by simp [results, Try.results45, go_sem, *]) rfl ⟨rfl, by repeat (first | exact below_all (below_al (below_al (Below.refl _ _) _) _) hb | refine Below.setCell ?_ (by simp) _)⟩
  · have E := Lib.hid (show shU p u by_ = wrap64 (u + by_) by unfold shU; rw [hg]; rfl)
    rw [hg] at HC
    rw [E.out]
    clear hg
    go_enter Try.func45, Try.ntmps45
    go_wp2_with fail
    refine (HC.out).mono ?_
    rintro e w1 ⟨rfl, hb⟩
    have b0 : w1.heap[w.heap.size]? = some (.cells #[.int .i64 p, .int .i64 q, .int .i64 u] 61 (0, 0)) := block_keep hb (by simp; omega) (alloc_oldp _ (heap_new _ _))
    have b1 : w1.heap[w.heap.size + 1]? = some (.cells #[.int .i64 0, .int .i64 0, .int .i64 0] 61 (0, 0)) := block_keep hb (by simp) (alloc_newp _ (by simp))
    have c0 := cell_heap (j := 0) b0 rfl
    have z0 := cell_heap (j := 0) b1 rfl
    have f0 := frozen_pa b0 0
    have g0 := frozen_pa b1 0
    have c1 := cell_heap (j := 1) b0 rfl
    have z1 := cell_heap (j := 1) b1 rfl
    have f1 := frozen_pa b0 1
    have g1 := frozen_pa b1 1
    have c2 := cell_heap (j := 2) b0 rfl
    have z2 := cell_heap (j := 2) b1 rfl
    have f2 := frozen_pa b0 2
    have g2 := frozen_pa b1 2
    clear b0 b1
    go_wp2_with fail
    exact bodyPost_ret (v := .agg #[.int .i64 p, .int .i64 q, .int .i64 (wrap64 (u + by_))]) (by simp [results, Try.results45, go_sem, *]) rfl ⟨rfl, by repeat (first | exact below_all (below_al (below_al (Below.refl _ _) _) _) hb | refine Below.setCell ?_ (by simp) _)⟩

set_option maxHeartbeats 1000000 in
theorem refShift_any (p q u by_ : Int) (w : World) : Calls Try.prog 46 #[.agg #[.int .i64 p, .int .i64 q, .int .i64 u], .int .i64 by_] w fun e w' => e = .returned (.agg #[.int .i64 p, .int .i64 q, .int .i64 (shU p u by_)]) ∧ Below w.heap.size w w' := by
  have HC := Lib.hid (clocked_any p q u ((w.alloc (.cells #[.int .i64 p, .int .i64 q, .int .i64 u] 58)).alloc (.cells #[.int .i64 0, .int .i64 0, .int .i64 0] 58)))
  cases hg : goesB p
  · have E := Lib.hid (show shU p u by_ = u by unfold shU; rw [hg]; rfl)
    rw [hg] at HC
    rw [E.out]
    clear hg
    go_enter Try.func46, Try.ntmps46
    go_wp2_with fail
    refine (HC.out).mono ?_
    rintro e w1 ⟨rfl, hb⟩
    have b0 : w1.heap[w.heap.size]? = some (.cells #[.int .i64 p, .int .i64 q, .int .i64 u] 58 (0, 0)) := block_keep hb (by simp; omega) (alloc_oldp _ (heap_new _ _))
    have b1 : w1.heap[w.heap.size + 1]? = some (.cells #[.int .i64 0, .int .i64 0, .int .i64 0] 58 (0, 0)) := block_keep hb (by simp) (alloc_newp _ (by simp))
    have c0 := cell_heap (j := 0) b0 rfl
    have z0 := cell_heap (j := 0) b1 rfl
    have f0 := frozen_pa b0 0
    have g0 := frozen_pa b1 0
    have c1 := cell_heap (j := 1) b0 rfl
    have z1 := cell_heap (j := 1) b1 rfl
    have f1 := frozen_pa b0 1
    have g1 := frozen_pa b1 1
    have c2 := cell_heap (j := 2) b0 rfl
    have z2 := cell_heap (j := 2) b1 rfl
    have f2 := frozen_pa b0 2
    have g2 := frozen_pa b1 2
    clear b0 b1
    go_wp2_with fail
    exact bodyPost_ret (v := .agg #[.int .i64 p, .int .i64 q, .int .i64 u]) (by simp [results, Try.results46, go_sem, *]) rfl ⟨rfl, by repeat (first | exact below_all (below_al (below_al (Below.refl _ _) _) _) hb | refine Below.setCell ?_ (by simp) _)⟩
  · have E := Lib.hid (show shU p u by_ = wrap64 (u + by_) by unfold shU; rw [hg]; rfl)
    rw [hg] at HC
    rw [E.out]
    clear hg
    go_enter Try.func46, Try.ntmps46
    go_wp2_with fail
    refine (HC.out).mono ?_
    rintro e w1 ⟨rfl, hb⟩
    have b0 : w1.heap[w.heap.size]? = some (.cells #[.int .i64 p, .int .i64 q, .int .i64 u] 58 (0, 0)) := block_keep hb (by simp; omega) (alloc_oldp _ (heap_new _ _))
    have b1 : w1.heap[w.heap.size + 1]? = some (.cells #[.int .i64 0, .int .i64 0, .int .i64 0] 58 (0, 0)) := block_keep hb (by simp) (alloc_newp _ (by simp))
    have c0 := cell_heap (j := 0) b0 rfl
    have z0 := cell_heap (j := 0) b1 rfl
    have f0 := frozen_pa b0 0
    have g0 := frozen_pa b1 0
    have c1 := cell_heap (j := 1) b0 rfl
    have z1 := cell_heap (j := 1) b1 rfl
    have f1 := frozen_pa b0 1
    have g1 := frozen_pa b1 1
    have c2 := cell_heap (j := 2) b0 rfl
    have z2 := cell_heap (j := 2) b1 rfl
    have f2 := frozen_pa b0 2
    have g2 := frozen_pa b1 2
    clear b0 b1
    go_wp2_with fail
    exact bodyPost_ret (v := .agg #[.int .i64 p, .int .i64 q, .int .i64 (wrap64 (u + by_))]) (by simp [results, Try.results46, go_sem, *]) rfl ⟨rfl, by repeat (first | exact below_all (below_al (below_al (Below.refl _ _) _) _) hb | refine Below.setCell ?_ (by simp) _)⟩

set_option maxHeartbeats 1000000 in
theorem latest_any (g : Nat → Int) (tick : Int) (w : World) (hg : ∀ j, j < 16 → g j ≤ 9223372036854775807) : Calls Try.prog 49 #[.agg #[.int .i64 (g 0), .int .i64 (g 1), .int .i64 (g 2), .int .i64 (g 3), .int .i64 (g 4), .int .i64 (g 5), .int .i64 (g 6), .int .i64 (g 7), .int .i64 (g 8), .int .i64 (g 9), .int .i64 (g 10), .int .i64 (g 11), .int .i64 (g 12), .int .i64 (g 13), .int .i64 (g 14), .int .i64 (g 15)], .int .i64 tick] w fun e w' => e = .returned (.int .i64 (wrap64 (tick + boundF g))) ∧ Below w.heap.size w w' := by
  have HC := Lib.hid (bound_any g (w.alloc (.cells #[.int .i64 (g 0), .int .i64 (g 1), .int .i64 (g 2), .int .i64 (g 3), .int .i64 (g 4), .int .i64 (g 5), .int .i64 (g 6), .int .i64 (g 7), .int .i64 (g 8), .int .i64 (g 9), .int .i64 (g 10), .int .i64 (g 11), .int .i64 (g 12), .int .i64 (g 13), .int .i64 (g 14), .int .i64 (g 15)] 56)) hg)
  clear hg
  generalize boundF g = bb at HC ⊢
  go_enter Try.func49, Try.ntmps49
  go_wp2_with fail
  refine (HC.out).mono ?_
  rintro e w1 ⟨rfl, hb⟩
  go_wp2_with fail
  go_ret
  exact ⟨rfl, below_all (below_al (Below.refl _ _) _) hb⟩

set_option maxHeartbeats 1000000 in
theorem refLatest_any (g : Nat → Int) (tick : Int) (w : World) (hg : ∀ j, j < 16 → g j ≤ 9223372036854775807) : Calls Try.prog 50 #[.agg #[.int .i64 (g 0), .int .i64 (g 1), .int .i64 (g 2), .int .i64 (g 3), .int .i64 (g 4), .int .i64 (g 5), .int .i64 (g 6), .int .i64 (g 7), .int .i64 (g 8), .int .i64 (g 9), .int .i64 (g 10), .int .i64 (g 11), .int .i64 (g 12), .int .i64 (g 13), .int .i64 (g 14), .int .i64 (g 15)], .int .i64 tick] w fun e w' => e = .returned (.int .i64 (wrap64 (tick + boundF g))) ∧ Below w.heap.size w w' := by
  have HC := Lib.hid (refBound_any g (w.alloc (.cells #[.int .i64 (g 0), .int .i64 (g 1), .int .i64 (g 2), .int .i64 (g 3), .int .i64 (g 4), .int .i64 (g 5), .int .i64 (g 6), .int .i64 (g 7), .int .i64 (g 8), .int .i64 (g 9), .int .i64 (g 10), .int .i64 (g 11), .int .i64 (g 12), .int .i64 (g 13), .int .i64 (g 14), .int .i64 (g 15)] 56)) hg)
  clear hg
  generalize boundF g = bb at HC ⊢
  go_enter Try.func50, Try.ntmps50
  go_wp2_with fail
  refine (HC.out).mono ?_
  rintro e w1 ⟨rfl, hb⟩
  go_wp2_with fail
  go_ret
  exact ⟨rfl, below_all (below_al (Below.refl _ _) _) hb⟩

set_option maxHeartbeats 1000000 in
theorem refIn_any (lo hi x : Int) (w : World) : Calls Try.prog 110 #[.agg #[.int .i64 lo, .int .i64 hi], .int .i64 x] w fun e w' => e = .returned (.bool (inB lo hi x)) ∧ Below w.heap.size w w' := by
  by_cases h1 : lo ≤ x
  · have e := Lib.hid (show inB lo hi x = decide (x ≤ hi) by unfold inB; rw [decide_eq_true h1]; rfl)
    rw [e.out]
    go_enter Try.func110, Try.ntmps110
    go_wp2
    go_ret
    exact ⟨rfl, below_al (Below.refl _ _) _⟩
  · have e := Lib.hid (show inB lo hi x = false by unfold inB; rw [decide_eq_false h1]; rfl)
    rw [e.out]
    go_enter Try.func110, Try.ntmps110
    go_wp2
    go_ret
    exact ⟨rfl, below_al (Below.refl _ _) _⟩

set_option maxHeartbeats 1000000 in
theorem clip_lo (lo hi x : Int) (w : World) (h : lo ≤ hi) (h1 : x < lo) : Calls Try.prog 127 #[.agg #[.int .i64 lo, .int .i64 hi], .int .i64 x] w fun e w' => e = .returned (.tuple #[.int .i64 lo, .bool true]) ∧ Below w.heap.size w w' := by
  have h' : ¬ hi < lo := by omega
  go_enter Try.func127, Try.ntmps127
  go_wp2
  all_goals
    go_ret2
    exact ⟨by first | rfl | (exfalso; omega), below_al (Below.refl _ _) _⟩
set_option maxHeartbeats 1000000 in
theorem clip_hi (lo hi x : Int) (w : World) (h : lo ≤ hi) (h1 : hi < x) : Calls Try.prog 127 #[.agg #[.int .i64 lo, .int .i64 hi], .int .i64 x] w fun e w' => e = .returned (.tuple #[.int .i64 hi, .bool true]) ∧ Below w.heap.size w w' := by
  have h' : ¬ hi < lo := by omega
  have h2 : ¬ x < lo := by omega
  have h3 : lo ≤ x := by omega
  have h4 : ¬ x ≤ hi := by omega
  go_enter Try.func127, Try.ntmps127
  go_wp2
  all_goals
    go_ret2
    exact ⟨by first | rfl | (exfalso; omega), below_al (Below.refl _ _) _⟩
set_option maxHeartbeats 1000000 in
theorem clip_in (lo hi x : Int) (w : World) (h : lo ≤ x) (h1 : x ≤ hi) : Calls Try.prog 127 #[.agg #[.int .i64 lo, .int .i64 hi], .int .i64 x] w fun e w' => e = .returned (.tuple #[.int .i64 x, .bool true]) ∧ Below w.heap.size w w' := by
  have h' : ¬ hi < lo := by omega
  have h2 : ¬ x < lo := by omega
  have h4 : ¬ hi < x := by omega
  go_enter Try.func127, Try.ntmps127
  go_wp2
  all_goals
    go_ret2
    exact ⟨by first | rfl | (exfalso; omega), below_al (Below.refl _ _) _⟩
theorem clip_no (lo hi x : Int) (w : World) (h : hi < lo) : Calls Try.prog 127 #[.agg #[.int .i64 lo, .int .i64 hi], .int .i64 x] w fun e w' => e = .returned (.tuple #[.int .i64 0, .bool false]) ∧ Below w.heap.size w w' := by
  go_enter Try.func127, Try.ntmps127
  go_wp2
  go_ret2
  exact ⟨rfl, below_al (Below.refl _ _) _⟩

theorem inB_no {lo hi x : Int} (h : ¬ (lo ≤ x ∧ x ≤ hi)) : inB lo hi x = false := by
  cases e : inB lo hi x
  · rfl
  · exact absurd ((inB_iff _ _ _).1 e) h
set_option maxHeartbeats 1000000 in
theorem bandIn_any (lo hi x : Int) (w : World) : Calls Try.prog 109 #[.agg #[.int .i64 lo, .int .i64 hi], .int .i64 x] w fun e w' => e = .returned (.bool (inB lo hi x)) ∧ Below w.heap.size w w' := by
  by_cases h0 : hi < lo
  · have HC := Lib.hid (clip_no lo hi x (w.alloc (.cells #[.int .i64 lo, .int .i64 hi] 75)) h0)
    rw [inB_no (by omega)]
    clear h0
    go_enter Try.func109, Try.ntmps109
    go_wp2_with fail
    refine (HC.out).mono ?_
    rintro e w1 ⟨rfl, hb⟩
    go_wp2_with fail
    go_ret
    exact ⟨rfl, below_all (below_al (Below.refl _ _) _) hb⟩
  · by_cases h1 : x < lo
    · have HC := Lib.hid (clip_lo lo hi x (w.alloc (.cells #[.int .i64 lo, .int .i64 hi] 75)) (by omega) h1)
      have hb0 : (lo == x) = false := by simp; omega
      rw [inB_no (by omega)]
      clear h0 h1
      go_enter Try.func109, Try.ntmps109
      go_wp2_with fail
      refine (HC.out).mono ?_
      rintro e w1 ⟨rfl, hb⟩
      go_wp2_with fail
      go_ret
      exact ⟨rfl, below_all (below_al (Below.refl _ _) _) hb⟩
    · by_cases h2 : hi < x
      · have HC := Lib.hid (clip_hi lo hi x (w.alloc (.cells #[.int .i64 lo, .int .i64 hi] 75)) (by omega) h2)
        have hb0 : (hi == x) = false := by simp; omega
        rw [inB_no (by omega)]
        clear h0 h1 h2
        go_enter Try.func109, Try.ntmps109
        go_wp2_with fail
        refine (HC.out).mono ?_
        rintro e w1 ⟨rfl, hb⟩
        go_wp2_with fail
        go_ret
        exact ⟨rfl, below_all (below_al (Below.refl _ _) _) hb⟩
      · have HC := Lib.hid (clip_in lo hi x (w.alloc (.cells #[.int .i64 lo, .int .i64 hi] 75)) (by omega) (by omega))
        rw [(inB_iff lo hi x).2 (by omega)]
        clear h0 h1 h2
        go_enter Try.func109, Try.ntmps109
        go_wp2_with fail
        refine (HC.out).mono ?_
        rintro e w1 ⟨rfl, hb⟩
        go_wp2_with fail
        go_ret
        exact ⟨rfl, below_all (below_al (Below.refl _ _) _) hb⟩

/-! ### Decide -/
def decF (mx q : Int) (is : Bool) (lo hi x : Int) : Int := if is then (if inB lo hi x then 1 else if mx ≤ q then 4 else 3) else 2
set_option maxHeartbeats 2000000 in
theorem decide_any (g : Nat → Int) (p q u x v o lo hi : Int) (is : Bool) (w : World) : Calls Try.prog 56 #[.agg #[.int .i64 (g 0), .int .i64 (g 1), .int .i64 (g 2), .int .i64 (g 3), .int .i64 (g 4), .int .i64 (g 5), .int .i64 (g 6), .int .i64 (g 7), .int .i64 (g 8), .int .i64 (g 9), .int .i64 (g 10), .int .i64 (g 11), .int .i64 (g 12), .int .i64 (g 13), .int .i64 (g 14), .int .i64 (g 15)], .agg #[.int .i64 p, .int .i64 q, .int .i64 u], .agg #[.int .i64 x, .int .i64 v, .int .i64 o], .bool is, .agg #[.int .i64 lo, .int .i64 hi]] w fun e w' => e = .returned (.int .i64 (decF (g 9) q is lo hi x)) ∧ Below w.heap.size w w' := by
  cases is
  · have E := Lib.hid (show decF (g 9) q false lo hi x = 2 from rfl)
    rw [E.out]
    go_enter Try.func56, Try.ntmps56
    go_wp2
    all_goals
      go_ret
      exact ⟨rfl, below_al (below_al (below_al (below_al (Below.refl _ _) _) _) _) _⟩
  · have HC := Lib.hid (bandIn_any lo hi x ((((w.alloc (.cells #[.int .i64 (g 0), .int .i64 (g 1), .int .i64 (g 2), .int .i64 (g 3), .int .i64 (g 4), .int .i64 (g 5), .int .i64 (g 6), .int .i64 (g 7), .int .i64 (g 8), .int .i64 (g 9), .int .i64 (g 10), .int .i64 (g 11), .int .i64 (g 12), .int .i64 (g 13), .int .i64 (g 14), .int .i64 (g 15)] 56)).alloc (.cells #[.int .i64 p, .int .i64 q, .int .i64 u] 61)).alloc (.cells #[.int .i64 x, .int .i64 v, .int .i64 o] 78)).alloc (.cells #[.int .i64 lo, .int .i64 hi] 75)))
    have HQ := Lib.hid (fun W (hb : Below ((((w.alloc (.cells #[.int .i64 (g 0), .int .i64 (g 1), .int .i64 (g 2), .int .i64 (g 3), .int .i64 (g 4), .int .i64 (g 5), .int .i64 (g 6), .int .i64 (g 7), .int .i64 (g 8), .int .i64 (g 9), .int .i64 (g 10), .int .i64 (g 11), .int .i64 (g 12), .int .i64 (g 13), .int .i64 (g 14), .int .i64 (g 15)] 56)).alloc (.cells #[.int .i64 p, .int .i64 q, .int .i64 u] 61)).alloc (.cells #[.int .i64 x, .int .i64 v, .int .i64 o] 78)).alloc (.cells #[.int .i64 lo, .int .i64 hi] 75)).heap.size ((((w.alloc (.cells #[.int .i64 (g 0), .int .i64 (g 1), .int .i64 (g 2), .int .i64 (g 3), .int .i64 (g 4), .int .i64 (g 5), .int .i64 (g 6), .int .i64 (g 7), .int .i64 (g 8), .int .i64 (g 9), .int .i64 (g 10), .int .i64 (g 11), .int .i64 (g 12), .int .i64 (g 13), .int .i64 (g 14), .int .i64 (g 15)] 56)).alloc (.cells #[.int .i64 p, .int .i64 q, .int .i64 u] 61)).alloc (.cells #[.int .i64 x, .int .i64 v, .int .i64 o] 78)).alloc (.cells #[.int .i64 lo, .int .i64 hi] 75)) W) => bcell (b := w.heap.size + 1) (o := 1) (v := .int .i64 q) hb (by simp [go_sem]))
    have HG := Lib.hid (fun W (hb : Below ((((w.alloc (.cells #[.int .i64 (g 0), .int .i64 (g 1), .int .i64 (g 2), .int .i64 (g 3), .int .i64 (g 4), .int .i64 (g 5), .int .i64 (g 6), .int .i64 (g 7), .int .i64 (g 8), .int .i64 (g 9), .int .i64 (g 10), .int .i64 (g 11), .int .i64 (g 12), .int .i64 (g 13), .int .i64 (g 14), .int .i64 (g 15)] 56)).alloc (.cells #[.int .i64 p, .int .i64 q, .int .i64 u] 61)).alloc (.cells #[.int .i64 x, .int .i64 v, .int .i64 o] 78)).alloc (.cells #[.int .i64 lo, .int .i64 hi] 75)).heap.size ((((w.alloc (.cells #[.int .i64 (g 0), .int .i64 (g 1), .int .i64 (g 2), .int .i64 (g 3), .int .i64 (g 4), .int .i64 (g 5), .int .i64 (g 6), .int .i64 (g 7), .int .i64 (g 8), .int .i64 (g 9), .int .i64 (g 10), .int .i64 (g 11), .int .i64 (g 12), .int .i64 (g 13), .int .i64 (g 14), .int .i64 (g 15)] 56)).alloc (.cells #[.int .i64 p, .int .i64 q, .int .i64 u] 61)).alloc (.cells #[.int .i64 x, .int .i64 v, .int .i64 o] 78)).alloc (.cells #[.int .i64 lo, .int .i64 hi] 75)) W) => bcell (b := w.heap.size) (o := 9) (v := .int .i64 (g 9)) hb (by simp [go_sem]))
    cases hi0 : inB lo hi x
    · rw [hi0] at HC
      by_cases hm : g 9 ≤ q
      · have E := Lib.hid (show decF (g 9) q true lo hi x = 4 by unfold decF; rw [hi0]; simp [hm])
        rw [E.out]
        clear hi0
        go_enter Try.func56, Try.ntmps56
        go_wp2_with fail
        refine (HC.out).mono ?_
        rintro e w1 ⟨rfl, hb⟩
        have c1 := HQ.out _ hb
        have c2 := HG.out _ hb
        go_wp2_with fail
        go_ret
        exact ⟨rfl, below_all (below_al (below_al (below_al (below_al (Below.refl _ _) _) _) _) _) hb⟩
      · have E := Lib.hid (show decF (g 9) q true lo hi x = 3 by unfold decF; rw [hi0]; simp [hm])
        rw [E.out]
        clear hi0
        go_enter Try.func56, Try.ntmps56
        go_wp2_with fail
        refine (HC.out).mono ?_
        rintro e w1 ⟨rfl, hb⟩
        have c1 := HQ.out _ hb
        have c2 := HG.out _ hb
        go_wp2_with fail
        go_ret
        exact ⟨rfl, below_all (below_al (below_al (below_al (below_al (Below.refl _ _) _) _) _) _) hb⟩
    · rw [hi0] at HC
      have E := Lib.hid (show decF (g 9) q true lo hi x = 1 by unfold decF; rw [hi0]; rfl)
      rw [E.out]
      clear hi0
      by_cases hm : g 9 ≤ q
      · go_enter Try.func56, Try.ntmps56
        go_wp2_with fail
        refine (HC.out).mono ?_
        rintro e w1 ⟨rfl, hb⟩
        go_wp2_with fail
        go_ret
        exact ⟨rfl, below_all (below_al (below_al (below_al (below_al (Below.refl _ _) _) _) _) _) hb⟩
      · go_enter Try.func56, Try.ntmps56
        go_wp2_with fail
        refine (HC.out).mono ?_
        rintro e w1 ⟨rfl, hb⟩
        go_wp2_with fail
        go_ret
        exact ⟨rfl, below_all (below_al (below_al (below_al (below_al (Below.refl _ _) _) _) _) _) hb⟩

set_option maxHeartbeats 2000000 in
theorem refDecide_any (g : Nat → Int) (p q u x v o lo hi : Int) (is : Bool) (w : World) : Calls Try.prog 57 #[.agg #[.int .i64 (g 0), .int .i64 (g 1), .int .i64 (g 2), .int .i64 (g 3), .int .i64 (g 4), .int .i64 (g 5), .int .i64 (g 6), .int .i64 (g 7), .int .i64 (g 8), .int .i64 (g 9), .int .i64 (g 10), .int .i64 (g 11), .int .i64 (g 12), .int .i64 (g 13), .int .i64 (g 14), .int .i64 (g 15)], .agg #[.int .i64 p, .int .i64 q, .int .i64 u], .agg #[.int .i64 x, .int .i64 v, .int .i64 o], .bool is, .agg #[.int .i64 lo, .int .i64 hi]] w fun e w' => e = .returned (.int .i64 (decF (g 9) q is lo hi x)) ∧ Below w.heap.size w w' := by
  cases is
  · have E := Lib.hid (show decF (g 9) q false lo hi x = 2 from rfl)
    rw [E.out]
    go_enter Try.func57, Try.ntmps57
    go_wp2
    all_goals
      go_ret
      exact ⟨rfl, below_al (below_al (below_al (below_al (Below.refl _ _) _) _) _) _⟩
  · have HC := Lib.hid (refIn_any lo hi x ((((w.alloc (.cells #[.int .i64 (g 0), .int .i64 (g 1), .int .i64 (g 2), .int .i64 (g 3), .int .i64 (g 4), .int .i64 (g 5), .int .i64 (g 6), .int .i64 (g 7), .int .i64 (g 8), .int .i64 (g 9), .int .i64 (g 10), .int .i64 (g 11), .int .i64 (g 12), .int .i64 (g 13), .int .i64 (g 14), .int .i64 (g 15)] 56)).alloc (.cells #[.int .i64 p, .int .i64 q, .int .i64 u] 58)).alloc (.cells #[.int .i64 x, .int .i64 v, .int .i64 o] 80)).alloc (.cells #[.int .i64 lo, .int .i64 hi] 75)))
    have HQ := Lib.hid (fun W (hb : Below ((((w.alloc (.cells #[.int .i64 (g 0), .int .i64 (g 1), .int .i64 (g 2), .int .i64 (g 3), .int .i64 (g 4), .int .i64 (g 5), .int .i64 (g 6), .int .i64 (g 7), .int .i64 (g 8), .int .i64 (g 9), .int .i64 (g 10), .int .i64 (g 11), .int .i64 (g 12), .int .i64 (g 13), .int .i64 (g 14), .int .i64 (g 15)] 56)).alloc (.cells #[.int .i64 p, .int .i64 q, .int .i64 u] 58)).alloc (.cells #[.int .i64 x, .int .i64 v, .int .i64 o] 80)).alloc (.cells #[.int .i64 lo, .int .i64 hi] 75)).heap.size ((((w.alloc (.cells #[.int .i64 (g 0), .int .i64 (g 1), .int .i64 (g 2), .int .i64 (g 3), .int .i64 (g 4), .int .i64 (g 5), .int .i64 (g 6), .int .i64 (g 7), .int .i64 (g 8), .int .i64 (g 9), .int .i64 (g 10), .int .i64 (g 11), .int .i64 (g 12), .int .i64 (g 13), .int .i64 (g 14), .int .i64 (g 15)] 56)).alloc (.cells #[.int .i64 p, .int .i64 q, .int .i64 u] 58)).alloc (.cells #[.int .i64 x, .int .i64 v, .int .i64 o] 80)).alloc (.cells #[.int .i64 lo, .int .i64 hi] 75)) W) => bcell (b := w.heap.size + 1) (o := 1) (v := .int .i64 q) hb (by simp [go_sem]))
    have HG := Lib.hid (fun W (hb : Below ((((w.alloc (.cells #[.int .i64 (g 0), .int .i64 (g 1), .int .i64 (g 2), .int .i64 (g 3), .int .i64 (g 4), .int .i64 (g 5), .int .i64 (g 6), .int .i64 (g 7), .int .i64 (g 8), .int .i64 (g 9), .int .i64 (g 10), .int .i64 (g 11), .int .i64 (g 12), .int .i64 (g 13), .int .i64 (g 14), .int .i64 (g 15)] 56)).alloc (.cells #[.int .i64 p, .int .i64 q, .int .i64 u] 58)).alloc (.cells #[.int .i64 x, .int .i64 v, .int .i64 o] 80)).alloc (.cells #[.int .i64 lo, .int .i64 hi] 75)).heap.size ((((w.alloc (.cells #[.int .i64 (g 0), .int .i64 (g 1), .int .i64 (g 2), .int .i64 (g 3), .int .i64 (g 4), .int .i64 (g 5), .int .i64 (g 6), .int .i64 (g 7), .int .i64 (g 8), .int .i64 (g 9), .int .i64 (g 10), .int .i64 (g 11), .int .i64 (g 12), .int .i64 (g 13), .int .i64 (g 14), .int .i64 (g 15)] 56)).alloc (.cells #[.int .i64 p, .int .i64 q, .int .i64 u] 58)).alloc (.cells #[.int .i64 x, .int .i64 v, .int .i64 o] 80)).alloc (.cells #[.int .i64 lo, .int .i64 hi] 75)) W) => bcell (b := w.heap.size) (o := 9) (v := .int .i64 (g 9)) hb (by simp [go_sem]))
    cases hi0 : inB lo hi x
    · rw [hi0] at HC
      by_cases hm : g 9 ≤ q
      · have E := Lib.hid (show decF (g 9) q true lo hi x = 4 by unfold decF; rw [hi0]; simp [hm])
        rw [E.out]
        clear hi0
        go_enter Try.func57, Try.ntmps57
        go_wp2_with fail
        refine (HC.out).mono ?_
        rintro e w1 ⟨rfl, hb⟩
        have c1 := HQ.out _ hb
        have c2 := HG.out _ hb
        go_wp2_with fail
        go_ret
        exact ⟨rfl, below_all (below_al (below_al (below_al (below_al (Below.refl _ _) _) _) _) _) hb⟩
      · have E := Lib.hid (show decF (g 9) q true lo hi x = 3 by unfold decF; rw [hi0]; simp [hm])
        rw [E.out]
        clear hi0
        go_enter Try.func57, Try.ntmps57
        go_wp2_with fail
        refine (HC.out).mono ?_
        rintro e w1 ⟨rfl, hb⟩
        have c1 := HQ.out _ hb
        have c2 := HG.out _ hb
        go_wp2_with fail
        go_ret
        exact ⟨rfl, below_all (below_al (below_al (below_al (below_al (Below.refl _ _) _) _) _) _) hb⟩
    · rw [hi0] at HC
      have E := Lib.hid (show decF (g 9) q true lo hi x = 1 by unfold decF; rw [hi0]; rfl)
      rw [E.out]
      clear hi0
      by_cases hm : g 9 ≤ q
      · go_enter Try.func57, Try.ntmps57
        go_wp2_with fail
        refine (HC.out).mono ?_
        rintro e w1 ⟨rfl, hb⟩
        go_wp2_with fail
        go_ret
        exact ⟨rfl, below_all (below_al (below_al (below_al (below_al (Below.refl _ _) _) _) _) _) hb⟩
      · go_enter Try.func57, Try.ntmps57
        go_wp2_with fail
        refine (HC.out).mono ?_
        rintro e w1 ⟨rfl, hb⟩
        go_wp2_with fail
        go_ret
        exact ⟨rfl, below_all (below_al (below_al (below_al (below_al (Below.refl _ _) _) _) _) _) hb⟩


end Go.Proofs.Ythhkcckikmldcaa
