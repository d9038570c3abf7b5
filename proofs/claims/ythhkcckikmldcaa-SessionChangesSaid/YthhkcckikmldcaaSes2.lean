/-
  Session: contracts of At, Next and of the document's answers At, Next; Rising.
-/
import Derived.Test.YthhkcckikmldcaaSes1
set_option linter.unusedVariables false
set_option linter.unusedSimpArgs false
namespace Go.Proofs.Ythhkcckikmldcaa
open Go.RowKit

theorem bh_le (n : Nat) (T : Nat → Int) (tick : Int) : bh n T tick ≤ n := first_le _ _
theorem bh_lo (n : Nat) (T : Nat → Int) (tick : Int) : ∀ j, j < bh n T tick → T j ≤ tick := fun j hj => by simpa using first_none _ _ j hj
theorem bh_hi (n : Nat) (T : Nat → Int) (tick : Int) (hr : Rise n T) : ∀ j, bh n T tick ≤ j → j < n → tick < T j := fun j h1 h2 => by
  have h : tick < T (bh n T tick) := of_decide_eq_true (first_hit (fun i => decide (tick < T i)) n (show bh n T tick < n by omega))
  by_cases e : j = bh n T tick
  · rw [e]; exact h
  · have := hr (bh n T tick) j (by omega) h2; omega
/-- When the next row is, and whether there is one. -/
def nxT (n : Nat) (T : Nat → Int) (tick : Int) : Int := if bh n T tick = n then 0 else T (bh n T tick)
def nxB (n : Nat) (T : Nat → Int) (tick : Int) : Bool := !decide (bh n T tick = n)
theorem nx_no {n : Nat} {T : Nat → Int} {tick : Int} (h : bh n T tick = n) : nxT n T tick = 0 ∧ nxB n T tick = false := by simp [nxT, nxB, h]
theorem nx_yes {n : Nat} {T : Nat → Int} {tick : Int} (h : bh n T tick ≠ n) : nxT n T tick = T (bh n T tick) ∧ nxB n T tick = true := by simp [nxT, nxB, h]
/-- The phase at a tick. -/
def phS (n : Nat) (T F : Nat → Int) (tick : Int) : Int := if bh n T tick = 0 then 0 else F (bh n T tick - 1)
/-- The same by going over all rows. -/
def phR (T F : Nat → Int) (tick : Int) : Nat → Int
  | 0 => 0
  | k + 1 => if T k ≤ tick then F k else phR T F tick k
theorem phR_high (T F : Nat → Int) (tick : Int) (m k : Nat) (hm : ∀ j, m ≤ j → j < m + k → tick < T j) : phR T F tick (m + k) = phR T F tick m := by
  induction k with
  | zero => rfl
  | succ k ih =>
    show (if T (m + k) ≤ tick then F (m + k) else phR T F tick (m + k)) = _
    rw [if_neg (by have := hm (m + k) (by omega) (by omega); omega), ih (fun j h1 h2 => hm j h1 (by omega))]
theorem phR_eq (n : Nat) (T F : Nat → Int) (tick : Int) (hr : Rise n T) : phR T F tick n = phS n T F tick := by
  have hle := bh_le n T tick
  have e := phR_high T F tick (bh n T tick) (n - bh n T tick) (fun j h1 h2 => bh_hi n T tick hr j h1 (by omega))
  rw [show bh n T tick + (n - bh n T tick) = n by omega] at e
  rw [e]
  unfold phS
  cases hb : bh n T tick with
  | zero => rfl
  | succ m =>
    show (if T m ≤ tick then F m else phR T F tick m) = _
    rw [if_pos (bh_lo n T tick m (by omega)), if_neg (by omega)]
    rfl

set_option maxHeartbeats 1000000 in
theorem at_any (A : Option Addr) (n c : Nat) (T F : Nat → Int) (tick : Int) (w : World) (h : Rows2 w A n T F) (hr : Rise n T) :
    Calls Try.prog 21 #[.slice A n c, .int .i64 tick] w fun e w' => e = .returned (.int .i64 (phS n T F tick)) ∧ Below w.heap.size w w' := by
  have HC := Lib.hid (behind_any A n c T F tick w h hr)
  have hle := bh_le n T tick
  unfold phS
  generalize bh n T tick = m at HC hle ⊢
  by_cases hm : m = 0
  · subst hm
    go_enter Try.func21, Try.ntmps21
    go_wp2_with (go_at_call 68; refine (HC.out).mono ?_; rintro e w' ⟨rfl, hb⟩)
    go_ret
    exact ⟨rfl, hb⟩
  · obtain ⟨hn, h⟩ := h
    obtain ⟨b, off, rfl, hT, hF⟩ := h (by omega)
    obtain ⟨k, rfl⟩ : ∃ k, m = k + 1 := ⟨m - 1, by omega⟩
    have hFk := hF k (by omega)
    clear hT hF h hr hm
    have hne : (((k + 1 : Nat) : Int) == 0) = false := by simp; omega
    rw [if_neg (by omega), show k + 1 - 1 = k from rfl]
    go_enter Try.func21, Try.ntmps21
    go_wp2_with (go_at_call 68; refine (HC.out).mono ?_; rintro e w' ⟨rfl, hb⟩; have hcell := bcell hb hFk)
    go_ret
    exact ⟨rfl, hb⟩

set_option maxHeartbeats 1000000 in
theorem next_any (A : Option Addr) (n c : Nat) (T F : Nat → Int) (tick : Int) (w : World) (h : Rows2 w A n T F) (hr : Rise n T) :
    Calls Try.prog 19 #[.slice A n c, .int .i64 tick] w fun e w' => e = .returned (.tuple #[.int .i64 (nxT n T tick), .bool (nxB n T tick)]) ∧ Below w.heap.size w w' := by
  have HC := Lib.hid (behind_any A n c T F tick w h hr)
  have hle := bh_le n T tick
  by_cases hm : bh n T tick = n
  · have E := Lib.hid (nx_no hm)
    rw [hm] at HC
    clear hm hle
    rw [E.out.1, E.out.2]
    go_enter Try.func19, Try.ntmps19
    go_wp2_with (go_at_call 68; refine (HC.out).mono ?_; rintro e w' ⟨rfl, hb⟩)
    go_ret2
    exact ⟨rfl, hb⟩
  · obtain ⟨hn, h⟩ := h
    obtain ⟨b, off, rfl, hT, hF⟩ := h (by omega)
    have E := Lib.hid (nx_yes hm)
    rw [E.out.1, E.out.2]
    generalize bh n T tick = m at HC hle hm ⊢
    have hTk := hT m (by omega)
    have hlt : (m : Int) < (n : Int) := by omega
    have hne : ((m : Int) == (n : Int)) = false := by simp; omega
    clear hT hF h hr hm E
    go_enter Try.func19, Try.ntmps19
    go_wp2_with (go_at_call 68; refine (HC.out).mono ?_; rintro e w' ⟨rfl, hb⟩; have hcell := bcell hb hTk)
    go_ret2
    exact ⟨rfl, hb⟩

set_option maxHeartbeats 1000000 in
theorem refAt_any (A : Option Addr) (n c : Nat) (T F : Nat → Int) (tick : Int) (w : World) (h : Rows2 w A n T F) (hr : Rise n T) :
    Calls Try.prog 22 #[.slice A n c, .int .i64 tick] w fun e w' => e = .returned (.int .i64 (phS n T F tick)) ∧ Below w.heap.size w w' := by
  rw [← phR_eq n T F tick hr]
  have H := Lib.hid h.2
  have hn := h.1
  clear h hr
  go_enter Try.func22, Try.ntmps22
  go_wp2
  go_loop [5, 6] (fun p i => ∃ k : Nat, k ≤ n ∧ i = .int .i64 k ∧ p = .int .i64 (phR T F tick k)) (fun _ i => n - (intOf i).toNat)
  case atStart => exact ⟨0, Nat.zero_le _, rfl, rfl⟩
  case round =>
    obtain ⟨k, hk, rfl, rfl⟩ := hrel
    by_cases hlt : k < n
    · have hlt' : (k : Int) < (n : Int) := by omega
      obtain ⟨b, off, rfl, hT, hF⟩ := H.out (by omega)
      have h1 := hT k hlt
      have h2 := hF k hlt
      clear hT hF
      by_cases ht : T k ≤ tick
      · have e := Lib.hid (show phR T F tick (k + 1) = F k from if_pos ht)
        go_wp2
        go_round
        case rel => exact ⟨k + 1, by omega, by go_num, by rw [e.out]⟩
        case measure => simp [intOf]; omega
      · have e := Lib.hid (show phR T F tick (k + 1) = phR T F tick k from if_neg ht)
        go_wp2
        go_round
        case rel => exact ⟨k + 1, by omega, by go_num, by rw [e.out]⟩
        case measure => simp [intOf]; omega
    · have : k = n := by omega
      subst this
      go_wp2
      go_ret
      exact ⟨rfl, Below.refl _ _⟩

set_option maxHeartbeats 1000000 in
theorem refNext_any (A : Option Addr) (n c : Nat) (T F : Nat → Int) (tick : Int) (w : World) (h : Rows2 w A n T F) :
    Calls Try.prog 20 #[.slice A n c, .int .i64 tick] w fun e w' => e = .returned (.tuple #[.int .i64 (nxT n T tick), .bool (nxB n T tick)]) ∧ Below w.heap.size w w' := by
  have H := Lib.hid h.2
  have hn := h.1
  clear h
  go_enter Try.func20, Try.ntmps20
  go_wp2
  go_loop [6] (fun i => ∃ k : Nat, k ≤ n ∧ i = .int .i64 k ∧ Hid (∀ j, j < k → T j ≤ tick)) (fun i => n - (intOf i).toNat)
  case atStart => exact ⟨0, Nat.zero_le _, rfl, (fun j hj => absurd hj (Nat.not_lt_zero _) : ∀ j, j < 0 → T j ≤ tick)⟩
  case round =>
    obtain ⟨k, hk, rfl, I⟩ := hrel
    by_cases hlt : k < n
    · have hlt' : (k : Int) < (n : Int) := by omega
      obtain ⟨b, off, rfl, hT, hF⟩ := H.out (by omega)
      have h1 := hT k hlt
      clear hT hF
      by_cases ht : tick < T k
      · have e := Lib.hid (show bh n T tick = k from first_eq (by omega) (fun j hj => by simpa using I.out j hj) (fun _ => by simpa using ht))
        have E := Lib.hid (nx_yes (by rw [e.out]; omega : bh n T tick ≠ n))
        rw [e.out] at E
        go_wp2
        go_ret2
        rw [E.out.1, E.out.2]
        exact ⟨rfl, Below.refl _ _⟩
      · have I' := Lib.hid (show ∀ j, j < k + 1 → T j ≤ tick from fun j hj => by
          by_cases e : j = k
          · subst e; omega
          · exact I.out j (by omega))
        go_wp2
        go_round
        case rel => exact ⟨k + 1, by omega, by go_num, I'⟩
        case measure => simp [intOf]; omega
    · have : k = n := by omega
      subst this
      have e := Lib.hid (show bh k T tick = k from first_eq (by omega) (fun j hj => by simpa using I.out j hj) (fun _ => by omega))
      have E := Lib.hid (nx_no e.out)
      go_wp2
      go_ret2
      rw [E.out.1, E.out.2]
      exact ⟨rfl, Below.refl _ _⟩
end Go.Proofs.Ythhkcckikmldcaa
