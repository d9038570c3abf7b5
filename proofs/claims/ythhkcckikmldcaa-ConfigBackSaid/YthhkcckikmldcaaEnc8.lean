/-
  Config: when two lists of structs are equal (slices.Equal at the program's own structs). (Written by gen_enc8.py, a program of this session's own.)
-/
import Derived.Test.YthhkcckikmldcaaEnc7
import Derived.Laws.StructEq
set_option linter.unusedVariables false
set_option linter.unusedSimpArgs false
namespace Go.Proofs.Ythhkcckikmldcaa
open Go.RowKit

/-- Are rows of k numbers the same? -/
def eqRow (k : Nat) (s t : Nat → Int) : Bool := (List.range k).all fun j => s j == t j
theorem eqRow_iff {k : Nat} {s t : Nat → Int} : eqRow k s t = true ↔ ∀ j, j < k → s j = t j := by simp [eqRow]
/-- Are two tables the same up to row i? -/
def eqTab (k : Nat) (S T : Nat → Nat → Int) (n : Nat) : Bool := (List.range n).all fun i => eqRow k (S i) (T i)

theorem eqRow_no {k : Nat} {s t : Nat → Int} (h : ¬ ∀ j, j < k → s j = t j) : eqRow k s t = false := by
  cases he : eqRow k s t
  · rfl
  · exact absurd (eqRow_iff.1 he) h
theorem eqTab_succ (k : Nat) (S T : Nat → Nat → Int) (n : Nat) : eqTab k S T (n + 1) = (eqTab k S T n && eqRow k (S n) (T n)) := by simp [eqTab, List.range_succ]
theorem eqTab_no {k : Nat} {S T : Nat → Nat → Int} {n i : Nat} (hi : i < n) (h : eqRow k (S i) (T i) = false) : eqTab k S T n = false := by
  unfold eqTab
  rw [List.all_eq_false]
  exact ⟨i, List.mem_range.2 hi, by simp [h]⟩

set_option maxRecDepth 100000 in
set_option maxHeartbeats 4000000 in
theorem eq56 (s t : Nat → Int) (w : World) : (Op.equalIn 10000 56 (.agg #[.int .i64 (s 0), .int .i64 (s 1), .int .i64 (s 2), .int .i64 (s 3), .int .i64 (s 4), .int .i64 (s 5), .int .i64 (s 6), .int .i64 (s 7), .int .i64 (s 8), .int .i64 (s 9), .int .i64 (s 10), .int .i64 (s 11), .int .i64 (s 12), .int .i64 (s 13), .int .i64 (s 14), .int .i64 (s 15)]) (.agg #[.int .i64 (t 0), .int .i64 (t 1), .int .i64 (t 2), .int .i64 (t 3), .int .i64 (t 4), .int .i64 (t 5), .int .i64 (t 6), .int .i64 (t 7), .int .i64 (t 8), .int .i64 (t 9), .int .i64 (t 10), .int .i64 (t 11), .int .i64 (t 12), .int .i64 (t 13), .int .i64 (t 14), .int .i64 (t 15)])).run Try.prog w = .ok (eqRow 16 s t) w := by
  rw [run_equalIn_struct w 9999 56 _ _ (by kernel_rfl) (by kernel_rfl)]
  simp [Op.eqFields, Program.fieldsOf, go_sem, Try.underlying56]
  by_cases h : ∀ j, j < 16 → s j = t j
  · rw [eqRow_iff.2 h]
    simp [h 0 (by omega), h 1 (by omega), h 2 (by omega), h 3 (by omega), h 4 (by omega), h 5 (by omega), h 6 (by omega), h 7 (by omega), h 8 (by omega), h 9 (by omega), h 10 (by omega), h 11 (by omega), h 12 (by omega), h 13 (by omega), h 14 (by omega), h 15 (by omega)]
  · rw [eqRow_no h]
    by_cases h0 : ¬ s 0 = t 0
    · exact if_neg h0
    replace h0 := Decidable.not_not.1 h0
    rw [if_pos h0]
    by_cases h1 : ¬ s 1 = t 1
    · exact if_neg h1
    replace h1 := Decidable.not_not.1 h1
    rw [if_pos h1]
    by_cases h2 : ¬ s 2 = t 2
    · exact if_neg h2
    replace h2 := Decidable.not_not.1 h2
    rw [if_pos h2]
    by_cases h3 : ¬ s 3 = t 3
    · exact if_neg h3
    replace h3 := Decidable.not_not.1 h3
    rw [if_pos h3]
    by_cases h4 : ¬ s 4 = t 4
    · exact if_neg h4
    replace h4 := Decidable.not_not.1 h4
    rw [if_pos h4]
    by_cases h5 : ¬ s 5 = t 5
    · exact if_neg h5
    replace h5 := Decidable.not_not.1 h5
    rw [if_pos h5]
    by_cases h6 : ¬ s 6 = t 6
    · exact if_neg h6
    replace h6 := Decidable.not_not.1 h6
    rw [if_pos h6]
    by_cases h7 : ¬ s 7 = t 7
    · exact if_neg h7
    replace h7 := Decidable.not_not.1 h7
    rw [if_pos h7]
    by_cases h8 : ¬ s 8 = t 8
    · exact if_neg h8
    replace h8 := Decidable.not_not.1 h8
    rw [if_pos h8]
    by_cases h9 : ¬ s 9 = t 9
    · exact if_neg h9
    replace h9 := Decidable.not_not.1 h9
    rw [if_pos h9]
    by_cases h10 : ¬ s 10 = t 10
    · exact if_neg h10
    replace h10 := Decidable.not_not.1 h10
    rw [if_pos h10]
    by_cases h11 : ¬ s 11 = t 11
    · exact if_neg h11
    replace h11 := Decidable.not_not.1 h11
    rw [if_pos h11]
    by_cases h12 : ¬ s 12 = t 12
    · exact if_neg h12
    replace h12 := Decidable.not_not.1 h12
    rw [if_pos h12]
    by_cases h13 : ¬ s 13 = t 13
    · exact if_neg h13
    replace h13 := Decidable.not_not.1 h13
    rw [if_pos h13]
    by_cases h14 : ¬ s 14 = t 14
    · exact if_neg h14
    replace h14 := Decidable.not_not.1 h14
    rw [if_pos h14]
    by_cases h15 : ¬ s 15 = t 15
    · exact if_neg h15
    replace h15 := Decidable.not_not.1 h15
    rw [if_pos h15]
    exact absurd (fun j hj => by rcases (by omega : j = 0 ∨ j = 1 ∨ j = 2 ∨ j = 3 ∨ j = 4 ∨ j = 5 ∨ j = 6 ∨ j = 7 ∨ j = 8 ∨ j = 9 ∨ j = 10 ∨ j = 11 ∨ j = 12 ∨ j = 13 ∨ j = 14 ∨ j = 15) with rfl | rfl | rfl | rfl | rfl | rfl | rfl | rfl | rfl | rfl | rfl | rfl | rfl | rfl | rfl | rfl <;> assumption) h
theorem eq53 (s t : Nat → Int) (w : World) : (Op.equalIn 10000 53 (.agg #[.int .i64 (s 0), .int .i64 (s 1)]) (.agg #[.int .i64 (t 0), .int .i64 (t 1)])).run Try.prog w = .ok (eqRow 2 s t) w := by
  rw [run_equalIn_struct w 9999 53 _ _ (by kernel_rfl) (by kernel_rfl)]
  simp [Op.eqFields, Program.fieldsOf, go_sem, Try.underlying53]
  by_cases h : ∀ j, j < 2 → s j = t j
  · rw [eqRow_iff.2 h]
    simp [h 0 (by omega), h 1 (by omega)]
  · rw [eqRow_no h]
    by_cases h0 : ¬ s 0 = t 0
    · exact if_neg h0
    replace h0 := Decidable.not_not.1 h0
    rw [if_pos h0]
    by_cases h1 : ¬ s 1 = t 1
    · exact if_neg h1
    replace h1 := Decidable.not_not.1 h1
    rw [if_pos h1]
    exact absurd (fun j hj => by rcases (by omega : j = 0 ∨ j = 1) with rfl | rfl <;> assumption) h

set_option maxRecDepth 100000 in
set_option maxHeartbeats 4000000 in
theorem equal93 (A : Option Addr) (n c : Nat) (A' : Option Addr) (n' c' : Nat) (S T : Nat → Nat → Int) (w : World) (h : Tab w A n 16 S) (h' : Tab w A' n' 16 T) (hn : n ≤ 4611686018427387904) (hn' : n' ≤ 4611686018427387904) :
    Calls Try.prog 93 #[.slice A n c, .slice A' n' c'] w fun e w' => e = .returned (.bool (decide (n = n') && eqTab 16 S T n)) ∧ Below w.heap.size w w' := by
  have H := Lib.hid h
  have H' := Lib.hid h'
  clear h h'
  by_cases hnn : n = n'
  · subst hnn
    have E := Lib.hid (show (decide (n = n) && eqTab 16 S T n) = eqTab 16 S T n by simp)
    rw [E.out]
    clear E
    go_enter Try.func93, Try.ntmps93
    go_wp2
    go_loopw [13] (fun s wr => ∃ i q : Nat, i ≤ n ∧ s = .int .i64 (i : Int) ∧ wr = w.drewN q ∧ Hid (eqTab 16 S T i = true)) (fun s _ => n - (intOf s).toNat)
    case atStart => exact ⟨0, 0, Nat.zero_le _, rfl, rfl, Lib.hid rfl⟩
    case round =>
      obtain ⟨i, q, hi, rfl, rfl, HE⟩ := hrel
      by_cases hlt : i < n
      · have hlt' : (i : Int) < (n : Int) := by omega
        obtain ⟨b, off, rfl, hc⟩ := H.out (by omega)
        obtain ⟨b', off', rfl, hc'⟩ := H'.out (by omega)
        have s0 : w.cell? ⟨b, off + i * 16, none⟩ = some (.int .i64 (S i 0)) := hc i hlt 0 (by omega)
        have t0 : w.cell? ⟨b', off' + i * 16, none⟩ = some (.int .i64 (T i 0)) := hc' i hlt 0 (by omega)
        have s1 : w.cell? ⟨b, off + i * 16 + 1, none⟩ = some (.int .i64 (S i 1)) := hc i hlt 1 (by omega)
        have t1 : w.cell? ⟨b', off' + i * 16 + 1, none⟩ = some (.int .i64 (T i 1)) := hc' i hlt 1 (by omega)
        have s2 : w.cell? ⟨b, off + i * 16 + 2, none⟩ = some (.int .i64 (S i 2)) := hc i hlt 2 (by omega)
        have t2 : w.cell? ⟨b', off' + i * 16 + 2, none⟩ = some (.int .i64 (T i 2)) := hc' i hlt 2 (by omega)
        have s3 : w.cell? ⟨b, off + i * 16 + 3, none⟩ = some (.int .i64 (S i 3)) := hc i hlt 3 (by omega)
        have t3 : w.cell? ⟨b', off' + i * 16 + 3, none⟩ = some (.int .i64 (T i 3)) := hc' i hlt 3 (by omega)
        have s4 : w.cell? ⟨b, off + i * 16 + 4, none⟩ = some (.int .i64 (S i 4)) := hc i hlt 4 (by omega)
        have t4 : w.cell? ⟨b', off' + i * 16 + 4, none⟩ = some (.int .i64 (T i 4)) := hc' i hlt 4 (by omega)
        have s5 : w.cell? ⟨b, off + i * 16 + 5, none⟩ = some (.int .i64 (S i 5)) := hc i hlt 5 (by omega)
        have t5 : w.cell? ⟨b', off' + i * 16 + 5, none⟩ = some (.int .i64 (T i 5)) := hc' i hlt 5 (by omega)
        have s6 : w.cell? ⟨b, off + i * 16 + 6, none⟩ = some (.int .i64 (S i 6)) := hc i hlt 6 (by omega)
        have t6 : w.cell? ⟨b', off' + i * 16 + 6, none⟩ = some (.int .i64 (T i 6)) := hc' i hlt 6 (by omega)
        have s7 : w.cell? ⟨b, off + i * 16 + 7, none⟩ = some (.int .i64 (S i 7)) := hc i hlt 7 (by omega)
        have t7 : w.cell? ⟨b', off' + i * 16 + 7, none⟩ = some (.int .i64 (T i 7)) := hc' i hlt 7 (by omega)
        have s8 : w.cell? ⟨b, off + i * 16 + 8, none⟩ = some (.int .i64 (S i 8)) := hc i hlt 8 (by omega)
        have t8 : w.cell? ⟨b', off' + i * 16 + 8, none⟩ = some (.int .i64 (T i 8)) := hc' i hlt 8 (by omega)
        have s9 : w.cell? ⟨b, off + i * 16 + 9, none⟩ = some (.int .i64 (S i 9)) := hc i hlt 9 (by omega)
        have t9 : w.cell? ⟨b', off' + i * 16 + 9, none⟩ = some (.int .i64 (T i 9)) := hc' i hlt 9 (by omega)
        have s10 : w.cell? ⟨b, off + i * 16 + 10, none⟩ = some (.int .i64 (S i 10)) := hc i hlt 10 (by omega)
        have t10 : w.cell? ⟨b', off' + i * 16 + 10, none⟩ = some (.int .i64 (T i 10)) := hc' i hlt 10 (by omega)
        have s11 : w.cell? ⟨b, off + i * 16 + 11, none⟩ = some (.int .i64 (S i 11)) := hc i hlt 11 (by omega)
        have t11 : w.cell? ⟨b', off' + i * 16 + 11, none⟩ = some (.int .i64 (T i 11)) := hc' i hlt 11 (by omega)
        have s12 : w.cell? ⟨b, off + i * 16 + 12, none⟩ = some (.int .i64 (S i 12)) := hc i hlt 12 (by omega)
        have t12 : w.cell? ⟨b', off' + i * 16 + 12, none⟩ = some (.int .i64 (T i 12)) := hc' i hlt 12 (by omega)
        have s13 : w.cell? ⟨b, off + i * 16 + 13, none⟩ = some (.int .i64 (S i 13)) := hc i hlt 13 (by omega)
        have t13 : w.cell? ⟨b', off' + i * 16 + 13, none⟩ = some (.int .i64 (T i 13)) := hc' i hlt 13 (by omega)
        have s14 : w.cell? ⟨b, off + i * 16 + 14, none⟩ = some (.int .i64 (S i 14)) := hc i hlt 14 (by omega)
        have t14 : w.cell? ⟨b', off' + i * 16 + 14, none⟩ = some (.int .i64 (T i 14)) := hc' i hlt 14 (by omega)
        have s15 : w.cell? ⟨b, off + i * 16 + 15, none⟩ = some (.int .i64 (S i 15)) := hc i hlt 15 (by omega)
        have t15 : w.cell? ⟨b', off' + i * 16 + 15, none⟩ = some (.int .i64 (T i 15)) := hc' i hlt 15 (by omega)
        have heq := eq56 (S i) (T i)
        have hs := Lib.hid (eqTab_succ 16 S T i)
        cases he : eqRow 16 (S i) (T i)
        · rw [he] at heq hs
          have HF := Lib.hid (eqTab_no hlt he)
          clear hc hc' he
          generalize S i = s at *
          generalize T i = t at *
          go_wp2
          go_quiet (fail)
          go_wp2
          go_ret
          exact ⟨ret_bool HF.out.symm, by repeat (first | exact Below.refl _ _ | refine below_drewN ?_ _)⟩
        · rw [he] at heq hs
          have HG := Lib.hid (show eqTab 16 S T (i + 1) = true by rw [hs.out, HE.out]; rfl)
          clear hc hc' he hs HE
          generalize S i = s at *
          generalize T i = t at *
          go_wp2
          go_quiet (fail)
          go_wp2
          go_roundw
          case rel => exact ⟨i + 1, _, by omega, by go_num, rfl, HG⟩
          case measure => simp [intOf]; omega
      · obtain rfl : n = i := by omega
        go_wp2
        go_ret
        exact ⟨ret_bool HE.out.symm, below_drewN (Below.refl _ _) _⟩
  · have E := Lib.hid (show (decide (n = n') && eqTab 16 S T n) = false by rw [decide_eq_false hnn]; rfl)
    rw [E.out]
    have hne : ((n : Int) == (n' : Int)) = false := by simp; omega
    have hne' : ((n : Int) != (n' : Int)) = true := by simp; omega
    clear E
    go_enter Try.func93, Try.ntmps93
    go_wp2
    go_ret
    exact ⟨rfl, Below.refl _ _⟩
set_option maxRecDepth 100000 in
set_option maxHeartbeats 4000000 in
theorem equal94 (A : Option Addr) (n c : Nat) (A' : Option Addr) (n' c' : Nat) (S T : Nat → Nat → Int) (w : World) (h : Tab w A n 2 S) (h' : Tab w A' n' 2 T) (hn : n ≤ 4611686018427387904) (hn' : n' ≤ 4611686018427387904) :
    Calls Try.prog 94 #[.slice A n c, .slice A' n' c'] w fun e w' => e = .returned (.bool (decide (n = n') && eqTab 2 S T n)) ∧ Below w.heap.size w w' := by
  have H := Lib.hid h
  have H' := Lib.hid h'
  clear h h'
  by_cases hnn : n = n'
  · subst hnn
    have E := Lib.hid (show (decide (n = n) && eqTab 2 S T n) = eqTab 2 S T n by simp)
    rw [E.out]
    clear E
    go_enter Try.func94, Try.ntmps94
    go_wp2
    go_loopw [13] (fun s wr => ∃ i q : Nat, i ≤ n ∧ s = .int .i64 (i : Int) ∧ wr = w.drewN q ∧ Hid (eqTab 2 S T i = true)) (fun s _ => n - (intOf s).toNat)
    case atStart => exact ⟨0, 0, Nat.zero_le _, rfl, rfl, Lib.hid rfl⟩
    case round =>
      obtain ⟨i, q, hi, rfl, rfl, HE⟩ := hrel
      by_cases hlt : i < n
      · have hlt' : (i : Int) < (n : Int) := by omega
        obtain ⟨b, off, rfl, hc⟩ := H.out (by omega)
        obtain ⟨b', off', rfl, hc'⟩ := H'.out (by omega)
        have s0 : w.cell? ⟨b, off + i * 2, none⟩ = some (.int .i64 (S i 0)) := hc i hlt 0 (by omega)
        have t0 : w.cell? ⟨b', off' + i * 2, none⟩ = some (.int .i64 (T i 0)) := hc' i hlt 0 (by omega)
        have s1 : w.cell? ⟨b, off + i * 2 + 1, none⟩ = some (.int .i64 (S i 1)) := hc i hlt 1 (by omega)
        have t1 : w.cell? ⟨b', off' + i * 2 + 1, none⟩ = some (.int .i64 (T i 1)) := hc' i hlt 1 (by omega)
        have heq := eq53 (S i) (T i)
        have hs := Lib.hid (eqTab_succ 2 S T i)
        cases he : eqRow 2 (S i) (T i)
        · rw [he] at heq hs
          have HF := Lib.hid (eqTab_no hlt he)
          clear hc hc' he
          generalize S i = s at *
          generalize T i = t at *
          go_wp2
          go_quiet (fail)
          go_wp2
          go_ret
          exact ⟨ret_bool HF.out.symm, by repeat (first | exact Below.refl _ _ | refine below_drewN ?_ _)⟩
        · rw [he] at heq hs
          have HG := Lib.hid (show eqTab 2 S T (i + 1) = true by rw [hs.out, HE.out]; rfl)
          clear hc hc' he hs HE
          generalize S i = s at *
          generalize T i = t at *
          go_wp2
          go_quiet (fail)
          go_wp2
          go_roundw
          case rel => exact ⟨i + 1, _, by omega, by go_num, rfl, HG⟩
          case measure => simp [intOf]; omega
      · obtain rfl : n = i := by omega
        go_wp2
        go_ret
        exact ⟨ret_bool HE.out.symm, below_drewN (Below.refl _ _) _⟩
  · have E := Lib.hid (show (decide (n = n') && eqTab 2 S T n) = false by rw [decide_eq_false hnn]; rfl)
    rw [E.out]
    have hne : ((n : Int) == (n' : Int)) = false := by simp; omega
    have hne' : ((n : Int) != (n' : Int)) = true := by simp; omega
    clear E
    go_enter Try.func94, Try.ntmps94
    go_wp2
    go_ret
    exact ⟨rfl, Below.refl _ _⟩

end Go.Proofs.Ythhkcckikmldcaa
