/-
  Config: the contract of the document's Same. (Written by gen_enc10.py, a program of this session's own.)
-/
import Derived.Test.YthhkcckikmldcaaEnc9
set_option linter.unusedVariables false
set_option linter.unusedSimpArgs false
namespace Go.Proofs.Ythhkcckikmldcaa
open Go.RowKit

theorem bne_of {a b : Int} (h : (a == b) = false) : (a != b) = true := by simp [bne, h]
theorem bne_of' {a b : Int} (h : (a == b) = true) : (a != b) = false := by simp [bne, h]

set_option maxRecDepth 100000 in
set_option maxHeartbeats 8000000 in
theorem refSame_any (A : Option Addr) (n c : Nat) (B : Option Addr) (m d : Nat) (S R : Nat → Nat → Int) (x : Nat → Int) (A' : Option Addr) (n' c' : Nat) (B' : Option Addr) (m' d' : Nat) (T U : Nat → Nat → Int) (y : Nat → Int) (w : World)
    (h : Tab w A n 16 S) (h2 : Tab w B m 2 R) (k : Tab w A' n' 16 T) (k2 : Tab w B' m' 2 U) (hn : n ≤ 4611686018427387904) (hm : m ≤ 4611686018427387904) (hn' : n' ≤ 4611686018427387904) (hm' : m' ≤ 4611686018427387904) :
    Calls Try.prog 30 #[.agg #[.slice A n c, .slice B m d, .int .i64 (x 0), .int .i64 (x 1), .int .i64 (x 2), .int .i64 (x 3), .int .i64 (x 4), .int .i64 (x 5)], .agg #[.slice A' n' c', .slice B' m' d', .int .i64 (y 0), .int .i64 (y 1), .int .i64 (y 2), .int .i64 (y 3), .int .i64 (y 4), .int .i64 (y 5)]] w fun e w' => e = .returned (.bool (sameB n m S R x n' m' T U y)) ∧ Below w.heap.size w w' := by
  have HB := Lib.hid (below_al (below_al (Below.refl w.heap.size w) (.cells #[.slice A n c, .slice B m d, .int .i64 (x 0), .int .i64 (x 1), .int .i64 (x 2), .int .i64 (x 3), .int .i64 (x 4), .int .i64 (x 5)] 35)) (.cells #[.slice A' n' c', .slice B' m' d', .int .i64 (y 0), .int .i64 (y 1), .int .i64 (y 2), .int .i64 (y 3), .int .i64 (y 4), .int .i64 (y 5)] 35))
  have T1 := Lib.hid (h.below HB.out)
  have T2 := Lib.hid (k.below HB.out)
  have T3 := Lib.hid (h2.below HB.out)
  have T4 := Lib.hid (k2.below HB.out)
  have K1 := Lib.hid (alloc_old (.cells #[.slice A' n' c', .slice B' m' d', .int .i64 (y 0), .int .i64 (y 1), .int .i64 (y 2), .int .i64 (y 3), .int .i64 (y 4), .int .i64 (y 5)] 35) (heap_new w (.cells #[.slice A n c, .slice B m d, .int .i64 (x 0), .int .i64 (x 1), .int .i64 (x 2), .int .i64 (x 3), .int .i64 (x 4), .int .i64 (x 5)] 35)))
  have K2 := Lib.hid (heap_new2 w (.cells #[.slice A n c, .slice B m d, .int .i64 (x 0), .int .i64 (x 1), .int .i64 (x 2), .int .i64 (x 3), .int .i64 (x 4), .int .i64 (x 5)] 35) (.cells #[.slice A' n' c', .slice B' m' d', .int .i64 (y 0), .int .i64 (y 1), .int .i64 (y 2), .int .i64 (y 3), .int .i64 (y 4), .int .i64 (y 5)] 35))
  have q3 := eq32 (fun j => x (1 + j)) (fun j => y (1 + j))
  have q2 := eq33 (fun j => x (4 + j)) (fun j => y (4 + j))
  dsimp only [Nat.reduceAdd] at q3 q2
  unfold sameB
  clear h h2 k k2
  generalize eqRow 3 (fun j => x (1 + j)) (fun j => y (1 + j)) = e4 at q3 ⊢
  generalize eqRow 2 (fun j => x (4 + j)) (fun j => y (4 + j)) = e5 at q2 ⊢
  generalize he3 : (x 0 == y 0) = e3
  by_cases c1 : n = n'
  · by_cases c2 : m = m'
    · subst c1 c2
      rw [decide_eq_true rfl, decide_eq_true rfl, Bool.true_and, Bool.true_and]
      cases e3
      · have g3 := bne_of he3
        rw [Bool.false_and, Bool.and_false, Bool.and_false]
        go_enter Try.func30, Try.ntmps30
        go_wp2_with fail
        go_ret
        exact ⟨rfl, HB.out⟩
      · have g3 := bne_of' he3
        cases e4
        · rw [Bool.true_and, Bool.false_and, Bool.and_false, Bool.and_false]
          go_enter Try.func30, Try.ntmps30
          go_wp2_with fail
          go_ret
          exact ⟨rfl, HB.out⟩
        · cases e5
          · rw [Bool.true_and, Bool.true_and, Bool.and_false, Bool.and_false]
            go_enter Try.func30, Try.ntmps30
            go_wp2_with fail
            go_ret
            exact ⟨rfl, HB.out⟩
          · rw [Bool.true_and, Bool.true_and, Bool.and_true]
            go_enter Try.func30, Try.ntmps30
            go_wp2_with fail
            have HK1 := K1.out
            have HK2 := K2.out
            generalize (w.alloc (.cells #[.slice A n c, .slice B m d, .int .i64 (x 0), .int .i64 (x 1), .int .i64 (x 2), .int .i64 (x 3), .int .i64 (x 4), .int .i64 (x 5)] 35)).alloc (.cells #[.slice A' n c', .slice B' m d', .int .i64 (y 0), .int .i64 (y 1), .int .i64 (y 2), .int .i64 (y 3), .int .i64 (y 4), .int .i64 (y 5)] 35) = w1 at HB T1 T2 T3 T4 HK1 HK2 ⊢
            have a0 := cell_heap (j := 0) HK1 rfl
            have b0 := cell_heap (j := 0) HK2 rfl
            have a1 := cell_heap (j := 1) HK1 rfl
            have b1 := cell_heap (j := 1) HK2 rfl
            clear HK1 HK2 K1 K2 q2 q3 he3 g3
            go_wp2_with fail
            go_loopw [5] (fun s wr => ∃ i q : Nat, i ≤ n ∧ s = .int .i64 (i : Int) ∧ wr = w1.drewN q ∧ Hid (eqTab 16 S T i = true)) (fun s _ => n - (intOf s).toNat)
            case atStart => exact ⟨0, 0, Nat.zero_le _, rfl, rfl, Lib.hid rfl⟩
            case round =>
              obtain ⟨i, q, hi, rfl, rfl, HE⟩ := hrel
              by_cases hlt : i < n
              · have hlt' : (i : Int) < (n : Int) := by omega
                obtain ⟨b, off, rfl, hc⟩ := T1.out (by omega)
                obtain ⟨b', off', rfl, hc'⟩ := T2.out (by omega)
                have s0 : w1.cell? ⟨b, off + i * 16, none⟩ = some (.int .i64 (S i 0)) := hc i hlt 0 (by omega)
                have t0 : w1.cell? ⟨b', off' + i * 16, none⟩ = some (.int .i64 (T i 0)) := hc' i hlt 0 (by omega)
                have s1 : w1.cell? ⟨b, off + i * 16 + 1, none⟩ = some (.int .i64 (S i 1)) := hc i hlt 1 (by omega)
                have t1 : w1.cell? ⟨b', off' + i * 16 + 1, none⟩ = some (.int .i64 (T i 1)) := hc' i hlt 1 (by omega)
                have s2 : w1.cell? ⟨b, off + i * 16 + 2, none⟩ = some (.int .i64 (S i 2)) := hc i hlt 2 (by omega)
                have t2 : w1.cell? ⟨b', off' + i * 16 + 2, none⟩ = some (.int .i64 (T i 2)) := hc' i hlt 2 (by omega)
                have s3 : w1.cell? ⟨b, off + i * 16 + 3, none⟩ = some (.int .i64 (S i 3)) := hc i hlt 3 (by omega)
                have t3 : w1.cell? ⟨b', off' + i * 16 + 3, none⟩ = some (.int .i64 (T i 3)) := hc' i hlt 3 (by omega)
                have s4 : w1.cell? ⟨b, off + i * 16 + 4, none⟩ = some (.int .i64 (S i 4)) := hc i hlt 4 (by omega)
                have t4 : w1.cell? ⟨b', off' + i * 16 + 4, none⟩ = some (.int .i64 (T i 4)) := hc' i hlt 4 (by omega)
                have s5 : w1.cell? ⟨b, off + i * 16 + 5, none⟩ = some (.int .i64 (S i 5)) := hc i hlt 5 (by omega)
                have t5 : w1.cell? ⟨b', off' + i * 16 + 5, none⟩ = some (.int .i64 (T i 5)) := hc' i hlt 5 (by omega)
                have s6 : w1.cell? ⟨b, off + i * 16 + 6, none⟩ = some (.int .i64 (S i 6)) := hc i hlt 6 (by omega)
                have t6 : w1.cell? ⟨b', off' + i * 16 + 6, none⟩ = some (.int .i64 (T i 6)) := hc' i hlt 6 (by omega)
                have s7 : w1.cell? ⟨b, off + i * 16 + 7, none⟩ = some (.int .i64 (S i 7)) := hc i hlt 7 (by omega)
                have t7 : w1.cell? ⟨b', off' + i * 16 + 7, none⟩ = some (.int .i64 (T i 7)) := hc' i hlt 7 (by omega)
                have s8 : w1.cell? ⟨b, off + i * 16 + 8, none⟩ = some (.int .i64 (S i 8)) := hc i hlt 8 (by omega)
                have t8 : w1.cell? ⟨b', off' + i * 16 + 8, none⟩ = some (.int .i64 (T i 8)) := hc' i hlt 8 (by omega)
                have s9 : w1.cell? ⟨b, off + i * 16 + 9, none⟩ = some (.int .i64 (S i 9)) := hc i hlt 9 (by omega)
                have t9 : w1.cell? ⟨b', off' + i * 16 + 9, none⟩ = some (.int .i64 (T i 9)) := hc' i hlt 9 (by omega)
                have s10 : w1.cell? ⟨b, off + i * 16 + 10, none⟩ = some (.int .i64 (S i 10)) := hc i hlt 10 (by omega)
                have t10 : w1.cell? ⟨b', off' + i * 16 + 10, none⟩ = some (.int .i64 (T i 10)) := hc' i hlt 10 (by omega)
                have s11 : w1.cell? ⟨b, off + i * 16 + 11, none⟩ = some (.int .i64 (S i 11)) := hc i hlt 11 (by omega)
                have t11 : w1.cell? ⟨b', off' + i * 16 + 11, none⟩ = some (.int .i64 (T i 11)) := hc' i hlt 11 (by omega)
                have s12 : w1.cell? ⟨b, off + i * 16 + 12, none⟩ = some (.int .i64 (S i 12)) := hc i hlt 12 (by omega)
                have t12 : w1.cell? ⟨b', off' + i * 16 + 12, none⟩ = some (.int .i64 (T i 12)) := hc' i hlt 12 (by omega)
                have s13 : w1.cell? ⟨b, off + i * 16 + 13, none⟩ = some (.int .i64 (S i 13)) := hc i hlt 13 (by omega)
                have t13 : w1.cell? ⟨b', off' + i * 16 + 13, none⟩ = some (.int .i64 (T i 13)) := hc' i hlt 13 (by omega)
                have s14 : w1.cell? ⟨b, off + i * 16 + 14, none⟩ = some (.int .i64 (S i 14)) := hc i hlt 14 (by omega)
                have t14 : w1.cell? ⟨b', off' + i * 16 + 14, none⟩ = some (.int .i64 (T i 14)) := hc' i hlt 14 (by omega)
                have s15 : w1.cell? ⟨b, off + i * 16 + 15, none⟩ = some (.int .i64 (S i 15)) := hc i hlt 15 (by omega)
                have t15 : w1.cell? ⟨b', off' + i * 16 + 15, none⟩ = some (.int .i64 (T i 15)) := hc' i hlt 15 (by omega)
                have heq := eq56 (S i) (T i)
                have hs := Lib.hid (eqTab_succ 16 S T i)
                cases he : eqRow 16 (S i) (T i)
                · as_aux_lemma =>
                  rw [he] at heq hs
                  have HF := Lib.hid (show (eqTab 16 S T n && eqTab 2 R U m) = false by rw [eqTab_no hlt he]; rfl)
                  clear hc hc' he T1 T2 T3 T4
                  generalize S i = s at *
                  generalize T i = t at *
                  go_wp2
                  go_quiet (fail)
                  go_wp2
                  go_ret
                  exact ⟨ret_bool HF.out.symm, by repeat (first | exact HB.out | refine below_drewN ?_ _)⟩
                · as_aux_lemma =>
                  rw [he] at heq hs
                  have HG := Lib.hid (show eqTab 16 S T (i + 1) = true by rw [hs.out, HE.out]; rfl)
                  clear hc hc' he hs HE T1 T2 T3 T4
                  generalize S i = s at *
                  generalize T i = t at *
                  go_wp2
                  go_quiet (fail)
                  go_wp2
                  go_roundw
                  case rel => exact ⟨i + 1, _, by omega, by go_num, rfl, HG⟩
                  case measure => simp [intOf]; omega
              · obtain rfl : n = i := by omega
                as_aux_lemma =>
                have HE1 := HE
                clear T1 T2 HE
                go_wp2_with fail
                go_loopw [6] (fun s wr => ∃ i q : Nat, i ≤ m ∧ s = .int .i64 (i : Int) ∧ wr = w1.drewN q ∧ Hid (eqTab 2 R U i = true)) (fun s _ => m - (intOf s).toNat)
                case atStart => exact ⟨0, q, Nat.zero_le _, rfl, rfl, Lib.hid rfl⟩
                case round =>
                  obtain ⟨i, q, hi, rfl, rfl, HE⟩ := hrel
                  by_cases hlt : i < m
                  · have hlt' : (i : Int) < (m : Int) := by omega
                    obtain ⟨b, off, rfl, hc⟩ := T3.out (by omega)
                    obtain ⟨b', off', rfl, hc'⟩ := T4.out (by omega)
                    have s0 : w1.cell? ⟨b, off + i * 2, none⟩ = some (.int .i64 (R i 0)) := hc i hlt 0 (by omega)
                    have t0 : w1.cell? ⟨b', off' + i * 2, none⟩ = some (.int .i64 (U i 0)) := hc' i hlt 0 (by omega)
                    have s1 : w1.cell? ⟨b, off + i * 2 + 1, none⟩ = some (.int .i64 (R i 1)) := hc i hlt 1 (by omega)
                    have t1 : w1.cell? ⟨b', off' + i * 2 + 1, none⟩ = some (.int .i64 (U i 1)) := hc' i hlt 1 (by omega)
                    have heq := eq53 (R i) (U i)
                    have hs := Lib.hid (eqTab_succ 2 R U i)
                    cases he : eqRow 2 (R i) (U i)
                    · rw [he] at heq hs
                      have HF := Lib.hid (show (eqTab 16 S T n && eqTab 2 R U m) = false by rw [eqTab_no hlt he, Bool.and_false])
                      clear hc hc' he
                      generalize R i = s at *
                      generalize U i = t at *
                      go_wp2
                      go_quiet (fail)
                      go_wp2
                      go_ret
                      exact ⟨ret_bool HF.out.symm, by repeat (first | exact HB.out | refine below_drewN ?_ _)⟩
                    · rw [he] at heq hs
                      have HG := Lib.hid (show eqTab 2 R U (i + 1) = true by rw [hs.out, HE.out]; rfl)
                      clear hc hc' he hs HE
                      generalize R i = s at *
                      generalize U i = t at *
                      go_wp2
                      go_quiet (fail)
                      go_wp2
                      go_roundw
                      case rel => exact ⟨i + 1, _, by omega, by go_num, rfl, HG⟩
                      case measure => simp [intOf]; omega
                  · obtain rfl : m = i := by omega
                    go_wp2
                    go_ret
                    exact ⟨ret_bool (by rw [HE1.out, HE.out]; rfl), by repeat (first | exact HB.out | refine below_drewN ?_ _)⟩
    · have c2' : ((m : Int) == (m' : Int)) = false := by simp; omega
      have c2'' := bne_of c2'
      rw [decide_eq_false c2, Bool.false_and, Bool.false_and, Bool.and_false]
      subst c1
      go_enter Try.func30, Try.ntmps30
      go_wp2_with fail
      go_ret
      exact ⟨rfl, HB.out⟩
  · have c1' : ((n : Int) == (n' : Int)) = false := by simp; omega
    have c1'' := bne_of c1'
    rw [decide_eq_false c1, Bool.false_and, Bool.false_and]
    go_enter Try.func30, Try.ntmps30
    go_wp2_with fail
    go_ret
    exact ⟨rfl, HB.out⟩


end Go.Proofs.Ythhkcckikmldcaa
