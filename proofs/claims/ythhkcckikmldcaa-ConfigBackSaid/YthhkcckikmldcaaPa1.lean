/-
  Pause: contracts of the program's and the document's functions of layer 22. (Written by gen_pa1.py, a program of this session's own.)
-/
import Derived.Test.YthhkcckikmldcaaCfg3
set_option linter.unusedVariables false
set_option linter.unusedSimpArgs false
namespace Go.Proofs.Ythhkcckikmldcaa
open Go.RowKit

/-- Has a phase a clock? -/
def goesB (p : Int) : Bool := p == 3 || p == 4
theorem goes_yes {p : Int} (h : p = 3 ∨ p = 4) : goesB p = true := by rcases h with rfl | rfl <;> rfl
theorem goes_no {p : Int} (h3 : p ≠ 3) (h4 : p ≠ 4) : goesB p = false := by unfold goesB; simp [h3, h4]
theorem goes_cases (p : Int) : (goesB p = true ∧ (p = 3 ∨ p = 4)) ∨ (goesB p = false ∧ p ≠ 3 ∧ p ≠ 4) := by
  by_cases h3 : p = 3
  · exact Or.inl ⟨goes_yes (Or.inl h3), Or.inl h3⟩
  · by_cases h4 : p = 4
    · exact Or.inl ⟨goes_yes (Or.inr h4), Or.inr h4⟩
    · exact Or.inr ⟨goes_no h3 h4, h3, h4⟩

set_option maxHeartbeats 1000000 in
theorem goes_any (p q u : Int) (w : World) : Calls Try.prog 96 #[.agg #[.int .i64 p, .int .i64 q, .int .i64 u]] w fun e w' => e = .returned (.bool (goesB p)) ∧ Below w.heap.size w w' := by
  have i0 : ∀ w, (Instr.index 168 (.agg #[.int .i64 3, .int .i64 4]) (.int .i64 0)).run Try.prog w = .ok (.int .i64 3) w := fun _ => by kernel_rfl
  have i1 : ∀ w, (Instr.index 168 (.agg #[.int .i64 3, .int .i64 4]) (.int .i64 1)).run Try.prog w = .ok (.int .i64 4) w := fun _ => by kernel_rfl
  obtain ⟨R, hR⟩ : ∃ R, R = goesB p := ⟨_, rfl⟩
  rw [← hR]
  have HR := Lib.hid hR
  clear hR
  go_enter Try.func96, Try.ntmps96
  go_wp2
  go_loop [4, 6] (fun _ i => ∃ k : Nat, k ≤ 2 ∧ i = .int .i64 k ∧ Hid ((0 < k → p ≠ 3) ∧ (1 < k → p ≠ 4))) (fun _ i => 2 - (intOf i).toNat)
  case atStart => exact ⟨0, by omega, rfl, (⟨fun h => absurd h (Nat.lt_irrefl _), fun h => by omega⟩ : (0 < 0 → p ≠ 3) ∧ (1 < 0 → p ≠ 4))⟩
  case round =>
    obtain ⟨k, hk, rfl, I⟩ := hrel
    rcases (by omega : k = 0 ∨ k = 1 ∨ k = 2) with rfl | rfl | rfl
    · by_cases h3 : p = 3
      · have E := Lib.hid (show R = true by rw [HR.out]; exact goes_yes (Or.inl h3))
        have hb : (p == 3) = true := by simp [h3]
        clear h3
        go_wp2
        go_ret
        exact ⟨ret_bool E.out.symm, (Below.refl _ _).alloc (Nat.le_refl _) _⟩
      · have I' := Lib.hid (show (0 < 1 → p ≠ 3) ∧ (1 < 1 → p ≠ 4) from ⟨fun _ => h3, fun h => absurd h (Nat.lt_irrefl _)⟩)
        have hb : (p == 3) = false := by simp [h3]
        clear h3
        go_wp2
        go_round
        case rel => exact ⟨1, by omega, by first | rfl | go_num, I'⟩
        case measure => simp [intOf]
    · by_cases h4 : p = 4
      · have E := Lib.hid (show R = true by rw [HR.out]; exact goes_yes (Or.inr h4))
        have hb : (p == 4) = true := by simp [h4]
        clear h4
        go_wp2
        go_ret
        exact ⟨ret_bool E.out.symm, (Below.refl _ _).alloc (Nat.le_refl _) _⟩
      · have I' := Lib.hid (show (0 < 2 → p ≠ 3) ∧ (1 < 2 → p ≠ 4) from ⟨fun _ => I.out.1 (by omega), fun _ => h4⟩)
        have hb : (p == 4) = false := by simp [h4]
        clear h4
        go_wp2
        go_round
        case rel => exact ⟨2, by omega, by first | rfl | go_num, I'⟩
        case measure => simp [intOf]
    · have E := Lib.hid (show R = false by rw [HR.out]; exact goes_no (I.out.1 (by omega)) (I.out.2 (by omega)))
      go_wp2
      go_ret
      exact ⟨ret_bool E.out.symm, (Below.refl _ _).alloc (Nat.le_refl _) _⟩

set_option maxHeartbeats 1000000 in
theorem clocked_any (p q u : Int) (w : World) : Calls Try.prog 97 #[.agg #[.int .i64 p, .int .i64 q, .int .i64 u]] w fun e w' => e = .returned (.bool (goesB p)) ∧ Below w.heap.size w w' := by
  by_cases h3 : p = 3
  · rw [goes_yes (Or.inl h3)]
    have hb : (p == 3) = true := by simp [h3]
    clear h3
    go_enter Try.func97, Try.ntmps97
    go_wp2
    go_ret
    exact ⟨rfl, (Below.refl _ _).alloc (Nat.le_refl _) _⟩
  · have e : goesB p = (p == 4) := by unfold goesB; simp [h3]
    have hb : (p == 3) = false := by simp [h3]
    rw [e]
    clear h3 e
    go_enter Try.func97, Try.ntmps97
    go_wp2
    go_ret
    exact ⟨rfl, (Below.refl _ _).alloc (Nat.le_refl _) _⟩

def dueT (p u : Int) : Int := if goesB p then u else 0
set_option maxHeartbeats 1000000 in
theorem due_any (p q u : Int) (w : World) : Calls Try.prog 40 #[.agg #[.int .i64 p, .int .i64 q, .int .i64 u]] w fun e w' => e = .returned (.tuple #[.int .i64 (dueT p u), .bool (goesB p)]) ∧ Below w.heap.size w w' := by
  have HC := Lib.hid (goes_any p q u (w.alloc (.cells #[.int .i64 p, .int .i64 q, .int .i64 u] 61)))
  have HX := Lib.hid (fun W (hb : Below (w.alloc (.cells #[.int .i64 p, .int .i64 q, .int .i64 u] 61)).heap.size (w.alloc (.cells #[.int .i64 p, .int .i64 q, .int .i64 u] 61)) W) => bcell hb (cell_new_at w #[.int .i64 p, .int .i64 q, .int .i64 u] 61 2 (.int .i64 u) rfl))
  cases hg : goesB p
  · have E := Lib.hid (show dueT p u = 0 by unfold dueT; rw [hg]; rfl)
    rw [hg] at HC
    rw [E.out]
    clear hg
    go_enter Try.func40, Try.ntmps40
    go_wp2_with fail
    refine (HC.out).mono ?_
    rintro e w1 ⟨rfl, hb⟩
    go_wp2_with fail
    go_ret2
    exact ⟨rfl, below_all ((Below.refl _ _).alloc (Nat.le_refl _) _) hb⟩
  · have E := Lib.hid (show dueT p u = u by unfold dueT; rw [hg]; rfl)
    rw [hg] at HC
    rw [E.out]
    clear hg
    go_enter Try.func40, Try.ntmps40
    go_wp2_with fail
    refine (HC.out).mono ?_
    rintro e w1 ⟨rfl, hb⟩
    have hx := HX.out _ hb
    go_wp2_with fail
    go_ret2
    exact ⟨rfl, below_all ((Below.refl _ _).alloc (Nat.le_refl _) _) hb⟩

set_option maxHeartbeats 1000000 in
theorem refDue_any (p q u : Int) (w : World) : Calls Try.prog 42 #[.agg #[.int .i64 p, .int .i64 q, .int .i64 u]] w fun e w' => e = .returned (.tuple #[.int .i64 (dueT p u), .bool (goesB p)]) ∧ Below w.heap.size w w' := by
  have HC := Lib.hid (clocked_any p q u (w.alloc (.cells #[.int .i64 p, .int .i64 q, .int .i64 u] 58)))
  have HX := Lib.hid (fun W (hb : Below (w.alloc (.cells #[.int .i64 p, .int .i64 q, .int .i64 u] 58)).heap.size (w.alloc (.cells #[.int .i64 p, .int .i64 q, .int .i64 u] 58)) W) => bcell hb (cell_new_at w #[.int .i64 p, .int .i64 q, .int .i64 u] 58 2 (.int .i64 u) rfl))
  cases hg : goesB p
  · have E := Lib.hid (show dueT p u = 0 by unfold dueT; rw [hg]; rfl)
    rw [hg] at HC
    rw [E.out]
    clear hg
    go_enter Try.func42, Try.ntmps42
    go_wp2_with fail
    refine (HC.out).mono ?_
    rintro e w1 ⟨rfl, hb⟩
    go_wp2_with fail
    go_ret2
    exact ⟨rfl, below_all ((Below.refl _ _).alloc (Nat.le_refl _) _) hb⟩
  · have E := Lib.hid (show dueT p u = u by unfold dueT; rw [hg]; rfl)
    rw [hg] at HC
    rw [E.out]
    clear hg
    go_enter Try.func42, Try.ntmps42
    go_wp2_with fail
    refine (HC.out).mono ?_
    rintro e w1 ⟨rfl, hb⟩
    have hx := HX.out _ hb
    go_wp2_with fail
    go_ret2
    exact ⟨rfl, below_all ((Below.refl _ _).alloc (Nat.le_refl _) _) hb⟩

set_option maxHeartbeats 1000000 in
theorem own_any (p q u : Int) (w : World) : Calls Try.prog 41 #[.agg #[.int .i64 p, .int .i64 q, .int .i64 u]] w fun e w' => e = .returned (.agg #[.int .i64 p, .int .i64 q, .int .i64 u]) ∧ Below w.heap.size w w' := by
  go_enter Try.func41, Try.ntmps41
  go_wp2_with fail
  exact bodyPost_ret (v := .agg #[.int .i64 p, .int .i64 q, .int .i64 u]) (by simp [results, Try.results41, go_sem]) rfl ⟨rfl, by repeat (first | exact Below.refl _ _ | refine Below.setCell ?_ (by simp) _ | refine below_al ?_ _)⟩

set_option maxHeartbeats 1000000 in
theorem begin_any (g : Nat → Int) (tick : Int) (w : World) : Calls Try.prog 43 #[.agg #[.int .i64 (g 0), .int .i64 (g 1), .int .i64 (g 2), .int .i64 (g 3), .int .i64 (g 4), .int .i64 (g 5), .int .i64 (g 6), .int .i64 (g 7), .int .i64 (g 8), .int .i64 (g 9), .int .i64 (g 10), .int .i64 (g 11), .int .i64 (g 12), .int .i64 (g 13), .int .i64 (g 14), .int .i64 (g 15)], .int .i64 tick] w fun e w' => e = .returned (.agg #[.int .i64 3, .int .i64 0, .int .i64 (wrap64 (tick + g 7))]) ∧ Below w.heap.size w w' := by
  go_enter Try.func43, Try.ntmps43
  go_wp2_with fail
  exact bodyPost_ret (v := .agg #[.int .i64 3, .int .i64 0, .int .i64 (wrap64 (tick + g 7))]) (by simp [results, Try.results43, go_sem]) rfl ⟨rfl, by repeat (first | exact Below.refl _ _ | refine Below.setCell ?_ (by simp) _ | refine below_al ?_ _)⟩

set_option maxHeartbeats 1000000 in
theorem refBegin_any (g : Nat → Int) (tick : Int) (w : World) : Calls Try.prog 44 #[.agg #[.int .i64 (g 0), .int .i64 (g 1), .int .i64 (g 2), .int .i64 (g 3), .int .i64 (g 4), .int .i64 (g 5), .int .i64 (g 6), .int .i64 (g 7), .int .i64 (g 8), .int .i64 (g 9), .int .i64 (g 10), .int .i64 (g 11), .int .i64 (g 12), .int .i64 (g 13), .int .i64 (g 14), .int .i64 (g 15)], .int .i64 tick] w fun e w' => e = .returned (.agg #[.int .i64 3, .int .i64 0, .int .i64 (wrap64 (tick + g 7))]) ∧ Below w.heap.size w w' := by
  go_enter Try.func44, Try.ntmps44
  go_wp2_with fail
  exact bodyPost_ret (v := .agg #[.int .i64 3, .int .i64 0, .int .i64 (wrap64 (tick + g 7))]) (by simp [results, Try.results44, go_sem]) rfl ⟨rfl, by repeat (first | exact Below.refl _ _ | refine Below.setCell ?_ (by simp) _ | refine below_al ?_ _)⟩

set_option maxHeartbeats 1000000 in
theorem extend_any (g : Nat → Int) (p q u : Int) (w : World) : Calls Try.prog 47 #[.agg #[.int .i64 (g 0), .int .i64 (g 1), .int .i64 (g 2), .int .i64 (g 3), .int .i64 (g 4), .int .i64 (g 5), .int .i64 (g 6), .int .i64 (g 7), .int .i64 (g 8), .int .i64 (g 9), .int .i64 (g 10), .int .i64 (g 11), .int .i64 (g 12), .int .i64 (g 13), .int .i64 (g 14), .int .i64 (g 15)], .agg #[.int .i64 p, .int .i64 q, .int .i64 u]] w fun e w' => e = .returned (.agg #[.int .i64 4, .int .i64 (wrap64 (q + 1)), .int .i64 (wrap64 (u + g 8))]) ∧ Below w.heap.size w w' := by
  go_enter Try.func47, Try.ntmps47
  go_wp2_with fail
  exact bodyPost_ret (v := .agg #[.int .i64 4, .int .i64 (wrap64 (q + 1)), .int .i64 (wrap64 (u + g 8))]) (by simp [results, Try.results47, go_sem]) rfl ⟨rfl, by repeat (first | exact Below.refl _ _ | refine Below.setCell ?_ (by simp) _ | refine below_al ?_ _)⟩

set_option maxHeartbeats 1000000 in
theorem refExtend_any (g : Nat → Int) (p q u : Int) (w : World) : Calls Try.prog 48 #[.agg #[.int .i64 (g 0), .int .i64 (g 1), .int .i64 (g 2), .int .i64 (g 3), .int .i64 (g 4), .int .i64 (g 5), .int .i64 (g 6), .int .i64 (g 7), .int .i64 (g 8), .int .i64 (g 9), .int .i64 (g 10), .int .i64 (g 11), .int .i64 (g 12), .int .i64 (g 13), .int .i64 (g 14), .int .i64 (g 15)], .agg #[.int .i64 p, .int .i64 q, .int .i64 u]] w fun e w' => e = .returned (.agg #[.int .i64 4, .int .i64 (wrap64 (q + 1)), .int .i64 (wrap64 (u + g 8))]) ∧ Below w.heap.size w w' := by
  go_enter Try.func48, Try.ntmps48
  go_wp2_with fail
  exact bodyPost_ret (v := .agg #[.int .i64 4, .int .i64 (wrap64 (q + 1)), .int .i64 (wrap64 (u + g 8))]) (by simp [results, Try.results48, go_sem]) rfl ⟨rfl, by repeat (first | exact Below.refl _ _ | refine Below.setCell ?_ (by simp) _ | refine below_al ?_ _)⟩


end Go.Proofs.Ythhkcckikmldcaa
