/-
  Reading: the contract of the document's ReadNum.
-/
import Derived.Test.YthhkcckikmldcaaEnc2
set_option linter.unusedVariables false
set_option linter.unusedSimpArgs false
namespace Go.Proofs.Ythhkcckikmldcaa
open Go.RowKit

/-- What ReadNum gives: the number, how many bytes, the fault. -/
def partV (r : Nat × Nat × Nat) : Value := .agg #[.int .u64 (r.2.1 : Int), .int .i64 0, .slice none 0 0, .int .i64 (r.2.2 : Int), .int .i64 (r.1 : Int)]
theorem pow128 {i : Nat} (h : i ≤ 9) : 1 ≤ 128 ^ i ∧ 128 ^ i ≤ 9223372036854775808 := ⟨Nat.pow_pos (by omega), Nat.le_trans (Nat.pow_le_pow_right (by omega) h) (by decide)⟩

set_option maxRecDepth 100000 in
set_option maxHeartbeats 4000000 in
theorem readNum_any (A : Option Addr) (l : List UInt8) (c : Nat) (hl : l.length ≤ 4611686018427387904) (w : World) (h : RB w A l) :
    Calls Try.prog 123 #[.slice A l.length c] w fun e w' => e = .returned (partV (readNum l)) ∧ Below w.heap.size w w' := by
  have H := Lib.hid h
  clear h
  go_enter Try.func123, Try.ntmps123
  go_wp2
  go_loop [3, 4, 5] (fun s3 s4 s5 => ∃ (i acc : Nat) (pz : Int), s5 = .int .i64 (i : Int) ∧ s3 = .int .u64 (acc : Int) ∧ s4 = .int .u64 pz ∧ i ≤ 10 ∧ i ≤ l.length ∧ Hid (i ≤ 9 → pz = ((128 ^ i : Nat) : Int) ∧ acc < 128 ^ i) ∧ Hid (readNum l = rd (10 - i) i acc (l.drop i))) (fun _ _ s => 10 - (intOf s).toNat)
  case atStart => exact ⟨0, 0, 1, rfl, rfl, rfl, by omega, by omega, Lib.hid (fun _ => ⟨rfl, by decide⟩), Lib.hid rfl⟩
  case round =>
    obtain ⟨i, acc, pz, rfl, rfl, rfl, hi, hil, HP, HR⟩ := hrel
    by_cases h10 : i < 10
    · have h10' : (i : Int) < 10 := by omega
      by_cases hlt : i < l.length
      · have hlt' : ¬ (l.length : Int) ≤ (i : Int) := by omega
        obtain ⟨b, off, rfl, hc⟩ := H.out (by omega)
        have hci := bcell ((Below.refl w.heap.size w).alloc (Nat.le_refl _) (.cells #[.int .u64 0, .int .i64 0, .slice none 0 0, .int .i64 0, .int .i64 0] 163)) (hc i hlt)
        clear hc
        have hR : Hid (readNum l = (if 9 - i = 0 ∧ 1 < l[i].toNat % 128 then (4, 0, 0) else if 128 ≤ l[i].toNat then rd (9 - i) (i + 1) (acc + l[i].toNat % 128 * 128 ^ i) (l.drop (i + 1)) else if l[i].toNat % 128 = 0 ∧ 0 < i then (4, 0, 0) else (0, acc + l[i].toNat % 128 * 128 ^ i, i + 1))) := by
          rw [HR.out, List.drop_eq_getElem_cons hlt, show 10 - i = (9 - i) + 1 by omega]
          rfl
        obtain ⟨hp, ha⟩ := HP.out (by omega)
        have hpw := pow128 (i := i) (by omega)
        have hβ : l[i].toNat < 256 := l[i].toNat_lt
        have h9 : i = 9 → 128 ^ i = 9223372036854775808 := fun e => by subst e; decide
        have h8 : i ≤ 8 → 128 ^ i ≤ 72057594037927936 := fun e => Nat.le_trans (Nat.pow_le_pow_right (by omega) e) (by decide)
        have hnx : 128 ^ (i + 1) = 128 ^ i * 128 := Nat.pow_succ ..
        generalize l[i].toNat = β at hci hR hβ
        generalize 128 ^ i = p at hp ha hpw h9 h8 hnx hR
        subst hp
        have hd : β % 128 < 128 := Nat.mod_lt _ (by omega)
        have m1 : β % 128 * p ≤ 127 * p := Nat.mul_le_mul_right _ (by omega)
        have mz : ((β : Int) % 128) * (p : Int) = ((β % 128 * p : Nat) : Int) := by rw [Int.natCast_mul]; congr 1
        by_cases c9 : i = 9 ∧ 1 < β % 128
        · obtain ⟨rfl, c9⟩ := c9
          have HE := Lib.hid (show readNum l = (4, 0, 0) by rw [hR.out, if_pos ⟨by omega, c9⟩])
          have z1 : (1 : Int) < (β : Int) % 128 := by omega
          go_wp2
          rw [HE.out]
          refine bodyPost_ret (v := partV (4, 0, 0)) ?_ rfl ⟨rfl, (Below.refl _ _).alloc (Nat.le_refl _) _⟩
          simp [results, Try.f123, go_sem, partV]
        · rw [if_neg (by omega)] at hR
          have m2 : i = 9 → β % 128 * p ≤ 1 * p := fun e => Nat.mul_le_mul_right p (by omega)
          have c9' : i = 9 → ¬ (1 : Int) < (β : Int) % 128 := fun e => by omega
          generalize β % 128 * p = dp at m1 m2 mz hR
          have hsum : acc + dp < 18446744073709551616 := by omega
          have hs1 : acc + dp < p * 128 := by omega
          by_cases i8 : i ≤ 8
          · skip
            have hi9 : ¬ (i : Int) = 9 := by omega
            by_cases c128 : 128 ≤ β
            · have z1 : ¬ (β : Int) < 128 := by omega
              rw [if_pos c128] at hR
              clear h9 c9'
              go_wp2
              go_round
              case rel => exact ⟨i + 1, acc + dp, ((p * 128 : Nat) : Int), by go_num, by go_num, by go_num, by omega, by omega, Lib.hid (fun _ => ⟨by rw [hnx], by rw [hnx]; exact hs1⟩), by rw [show 10 - (i + 1) = 9 - i by omega]; exact hR⟩
              case measure => simp [intOf]; omega
            · have z1 : (β : Int) < 128 := by omega
              rw [if_neg c128] at hR
              by_cases c0 : β % 128 = 0 ∧ 0 < i
              · have HE := Lib.hid (show readNum l = (4, 0, 0) by rw [hR.out, if_pos c0])
                obtain rfl : β = 0 := by omega
                have z3 : (0 : Int) < (i : Int) := by omega
                obtain rfl : dp = 0 := by omega
                clear h9 c9'
                go_wp2
                rw [HE.out]
                refine bodyPost_ret (v := partV (4, 0, 0)) ?_ rfl ⟨rfl, (Below.refl _ _).alloc (Nat.le_refl _) _⟩
                simp [results, Try.f123, go_sem, partV]
              · have HE := Lib.hid (show readNum l = (0, acc + dp, i + 1) by rw [hR.out, if_neg c0])
                clear h9 c9'
                by_cases cz : β = 0
                · subst cz
                  obtain rfl : dp = 0 := by omega
                  have z3 : ¬ (0 : Int) < (i : Int) := by omega
                  go_wp2
                  rw [HE.out]
                  refine bodyPost_ret (v := partV (0, acc + 0, i + 1)) ?_ rfl ⟨rfl, (Below.refl _ _).alloc (Nat.le_refl _) _⟩
                  simp [results, Try.f123, go_sem, partV]
                · have z3 : ¬ (β : Int) % 128 = 0 := by omega
                  go_wp2
                  rw [HE.out]
                  refine bodyPost_ret (v := partV (0, acc + dp, i + 1)) ?_ rfl ⟨rfl, (Below.refl _ _).alloc (Nat.le_refl _) _⟩
                  simp [results, Try.f123, go_sem, partV]
          · skip
            obtain rfl : i = 9 := by omega
            have c9'' := c9' rfl
            by_cases c128 : 128 ≤ β
            · have z1 : ¬ (β : Int) < 128 := by omega
              rw [if_pos c128] at hR
              clear h8 h9 hpw hnx m1 m2 hs1 c9' ha
              go_wp2
              go_round
              case rel => exact ⟨9 + 1, acc + dp, _, by go_num, by go_num, rfl, by omega, by omega, Lib.hid (fun h => absurd h (by omega)), hR⟩
              case measure => simp [intOf]
            · have z1 : (β : Int) < 128 := by omega
              rw [if_neg c128] at hR
              by_cases c0 : β % 128 = 0 ∧ 0 < 9
              · have HE := Lib.hid (show readNum l = (4, 0, 0) by rw [hR.out, if_pos c0])
                obtain rfl : β = 0 := by omega
                have z3 : (0 : Int) < (9 : Int) := by omega
                obtain rfl : dp = 0 := by omega
                clear h8 h9 hpw hnx m1 m2 hs1 c9' ha
                go_wp2
                rw [HE.out]
                refine bodyPost_ret (v := partV (4, 0, 0)) ?_ rfl ⟨rfl, (Below.refl _ _).alloc (Nat.le_refl _) _⟩
                simp [results, Try.f123, go_sem, partV]
              · have HE := Lib.hid (show readNum l = (0, acc + dp, 9 + 1) by rw [hR.out, if_neg c0])
                clear h8 h9 hpw hnx m1 m2 hs1 c9' ha
                by_cases cz : β = 0
                · exact absurd (And.intro (by omega) (by omega)) c0
                · have z3 : ¬ (β : Int) % 128 = 0 := by omega
                  go_wp2
                  rw [HE.out]
                  refine bodyPost_ret (v := partV (0, acc + dp, 9 + 1)) ?_ rfl ⟨rfl, (Below.refl _ _).alloc (Nat.le_refl _) _⟩
                  simp [results, Try.f123, go_sem, partV]
      · have hlt' : (l.length : Int) ≤ (i : Int) := by omega
        have HE := Lib.hid (show readNum l = (3, 0, 0) by
          rw [HR.out, List.drop_of_length_le (by omega), show 10 - i = (9 - i) + 1 by omega]; rfl)
        go_wp2
        rw [HE.out]
        refine bodyPost_ret (v := partV (3, 0, 0)) ?_ rfl ⟨rfl, (Below.refl _ _).alloc (Nat.le_refl _) _⟩
        simp [results, Try.f123, go_sem, partV]
    · have HE := Lib.hid (show readNum l = (4, 0, 0) by rw [HR.out, show 10 - i = 0 by omega]; rfl)
      have h10' : ¬ (i : Int) < 10 := by omega
      go_wp2
      rw [HE.out]
      refine bodyPost_ret (v := partV (4, 0, 0)) ?_ rfl ⟨rfl, (Below.refl _ _).alloc (Nat.le_refl _) _⟩
      simp [results, Try.f123, go_sem, partV]
end Go.Proofs.Ythhkcckikmldcaa
