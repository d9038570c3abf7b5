/-
  Breaker: the plain laws. (Written by gen_br7.py, a program of this session's own.)
-/
import Derived.Test.YthhkcckikmldcaaBr6
set_option linter.unusedVariables false
set_option linter.unusedSimpArgs false
namespace Go.Proofs.Ythhkcckikmldcaa
open Go.RowKit

theorem first_sym (S : Nat → Nat → Int) (n : Nat) : (∀ j, j < n → symF (S j) = 0) ∨ ∃ k, k < n ∧ (∀ j, j < k → symF (S j) = 0) ∧ symF (S k) ≠ 0 := by
  induction n with
  | zero => exact Or.inl fun j hj => absurd hj (Nat.not_lt_zero _)
  | succ n ih =>
    rcases ih with h | ⟨k, hk, h1, h2⟩
    · by_cases hz : symF (S n) = 0
      · exact Or.inl fun j hj => by
          rcases (by omega : j < n ∨ j = n) with h3 | rfl
          · exact h j h3
          · exact hz
      · exact Or.inr ⟨n, by omega, h, hz⟩
    · exact Or.inr ⟨k, by omega, h1, h2⟩
theorem chk_tail_ok {n m : Nat} {S R : Nat → Nat → Int} {x : Nat → Int} (h : chkF n S m R x = 0) : TailOk x := by
  have hl : inB 1 8 n = true := by
    cases hc : inB 1 8 (n : Int)
    · rw [(chk_long hc).1] at h; cases h
    · rfl
  have ht : tailF x = 0 := by
    rcases first_sym S n with h0 | ⟨k, hk, h1, h2⟩
    · by_cases hz : tabF m R = 0
      · rw [← (chk_tail (x := x) hl h0 hz).1]; exact h
      · rw [(chk_tab (x := x) hl h0 hz).1] at h; exact absurd h hz
    · rw [(chk_at (m := m) (R := R) (x := x) hl hk h1 h2).1] at h; exact absurd h h2
  obtain ⟨a, b, c⟩ := tailF_ok.1 ht
  simp only [cr1, cr2, cr3, inAll, List.all_cons, List.all_nil, Bool.and_true, Bool.and_eq_true, inB_iff, decide_eq_true_eq] at a b c
  refine ⟨a.1, a.2, fun j h1 h3 => ?_, b.2.1, b.2.2, c.1.1, c.1.2, c.2.1, c.2.2⟩
  rcases (by omega : j = 1 ∨ j = 2 ∨ j = 3) with rfl | rfl | rfl
  · exact b.1.1
  · exact b.1.2.1
  · exact b.1.2.2
theorem level_range (x : Nat → Int) (i : Int) : levelF x i = 0 ∨ levelF x i = 1 ∨ levelF x i = 2 ∨ levelF x i = 3 := by
  unfold levelF
  split
  · split
    · simp
    · split
      · simp
      · split <;> simp
  · simp
theorem hit_down {x : Nat → Int} {a b : Int} {k : Nat} (h : a ≤ b) (hb : hitB x b k = true) : hitB x a k = true := by
  unfold hitB at *
  have := of_decide_eq_true hb
  exact decide_eq_true (by omega)
theorem level_falls {x : Nat → Int} {a b : Int} (h1 : 1 ≤ a) (h : a ≤ b) (h2 : b ≤ 1099511627776) : levelF x b ≤ levelF x a := by
  have ra := level_range x a
  unfold levelF at *
  rw [(inB_iff _ _ _).2 ⟨h1, by omega⟩, if_pos rfl] at *
  rw [(inB_iff _ _ _).2 ⟨by omega, h2⟩, if_pos rfl] at *
  by_cases c3 : hitB x b 3 = true
  · rw [if_pos c3, if_pos (hit_down h c3)]; omega
  · rw [if_neg c3]
    by_cases c2 : hitB x b 2 = true
    · rw [if_pos c2, if_pos (hit_down h c2)]; split <;> omega
    · rw [if_neg c2]
      by_cases c1 : hitB x b 1 = true
      · rw [if_pos c1, if_pos (hit_down h c1)]; split
        · omega
        · split <;> omega
      · rw [if_neg c1]; omega
theorem level_self {x : Nat → Int} (h : TailOk x) : levelF x (x 0) = 0 := by
  have hn : ∀ k, 1 ≤ k → k ≤ 3 → hitB x (x 0) k = false := fun k h1 h3 => by
    obtain ⟨a, _, f, _⟩ := h
    have hk := (f k h1 h3).1
    have : 1 ≤ x 0 * x k := Int.le_trans (by omega : (1 : Int) ≤ 1 * 1) (Int.le_trans (Int.mul_le_mul_of_nonneg_right a (by omega)) (Int.mul_le_mul_of_nonneg_left hk (by omega)))
    exact decide_eq_false (by omega)
  unfold levelF
  rw [hn 3 (by omega) (by omega), hn 2 (by omega) (by omega), hn 1 (by omega) (by omega)]
  simp
end Go.Proofs.Ythhkcckikmldcaa
