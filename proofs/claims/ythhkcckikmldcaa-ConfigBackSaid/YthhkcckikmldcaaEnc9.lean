/-
  Config: the contracts of Same and of the document's Same. (Written by gen_enc9.py, a program of this session's own.)
-/
import Derived.Test.YthhkcckikmldcaaEnc8
import Derived.ChangeKeysEq
set_option linter.unusedVariables false
set_option linter.unusedSimpArgs false
namespace Go.Proofs.Ythhkcckikmldcaa
open Go.RowKit

theorem eq32 (s t : Nat → Int) (w : World) : (Op.equalIn 10000 32 (.agg #[.int .i64 (s 0), .int .i64 (s 1), .int .i64 (s 2)]) (.agg #[.int .i64 (t 0), .int .i64 (t 1), .int .i64 (t 2)])).run Try.prog w = .ok (eqRow 3 s t) w := by
  obtain ⟨i0, hi, hz0, hz1, hz2⟩ := info_parts (show (Try.prog.info? 3).map (fun i => (i.zero, i.size, i.bytes)) = some (some (.int .i64 0), 1, 8) by kernel_rfl)
  rw [run_equalIn_array w 9999 _ _ Try.underlying32 hi, cells3]
  simp [Op.eqItems, List.range, List.range.loop, go_sem]
  by_cases h : ∀ j, j < 3 → s j = t j
  · rw [eqRow_iff.2 h]
    simp [h 0 (by omega), h 1 (by omega), h 2 (by omega)]
  · rw [eqRow_no h]
    by_cases h0 : ¬ s 0 = t 0
    · exact if_neg h0
    replace h0 := Decidable.not_not.1 h0
    rw [if_pos h0]
    by_cases h1 : ¬ s 1 = t 1
    · exact if_neg h1
    replace h1 := Decidable.not_not.1 h1
    rw [if_pos h1]
    by_cases h2 : ¬ s 2 = t 2
    · exact if_neg h2
    replace h2 := Decidable.not_not.1 h2
    rw [if_pos h2]
    exact absurd (fun j hj => by rcases (by omega : j = 0 ∨ j = 1 ∨ j = 2) with rfl | rfl | rfl <;> assumption) h

theorem eq33 (s t : Nat → Int) (w : World) : (Op.equalIn 10000 33 (.agg #[.int .i64 (s 0), .int .i64 (s 1)]) (.agg #[.int .i64 (t 0), .int .i64 (t 1)])).run Try.prog w = .ok (eqRow 2 s t) w := by
  obtain ⟨i0, hi, hz0, hz1, hz2⟩ := info_parts (show (Try.prog.info? 2).map (fun i => (i.zero, i.size, i.bytes)) = some (some (.int .i64 0), 1, 8) by kernel_rfl)
  rw [run_equalIn_array w 9999 _ _ Try.underlying33 hi, cells2]
  simp [Op.eqItems, List.range, List.range.loop, go_sem]
  by_cases h : ∀ j, j < 2 → s j = t j
  · rw [eqRow_iff.2 h]
    simp [h 0 (by omega), h 1 (by omega)]
  · rw [eqRow_no h]
    by_cases h0 : ¬ s 0 = t 0
    · exact if_neg h0
    replace h0 := Decidable.not_not.1 h0
    rw [if_pos h0]
    by_cases h1 : ¬ s 1 = t 1
    · exact if_neg h1
    replace h1 := Decidable.not_not.1 h1
    rw [if_pos h1]
    exact absurd (fun j hj => by rcases (by omega : j = 0 ∨ j = 1) with rfl | rfl <;> assumption) h

/-- Are two configurations the same? -/
def sameB (n m : Nat) (S R : Nat → Nat → Int) (x : Nat → Int) (n' m' : Nat) (T U : Nat → Nat → Int) (y : Nat → Int) : Bool :=
  (decide (n = n') && eqTab 16 S T n) && ((decide (m = m') && eqTab 2 R U m) && ((x 0 == y 0) && (eqRow 3 (fun j => x (1 + j)) (fun j => y (1 + j)) && eqRow 2 (fun j => x (4 + j)) (fun j => y (4 + j)))))

set_option maxRecDepth 100000 in
set_option maxHeartbeats 4000000 in
theorem cfgSame_any (A : Option Addr) (n c : Nat) (B : Option Addr) (m d : Nat) (S R : Nat → Nat → Int) (x : Nat → Int) (A' : Option Addr) (n' c' : Nat) (B' : Option Addr) (m' d' : Nat) (T U : Nat → Nat → Int) (y : Nat → Int) (w : World)
    (h : Tab w A n 16 S) (h2 : Tab w B m 2 R) (k : Tab w A' n' 16 T) (k2 : Tab w B' m' 2 U) (hn : n ≤ 4611686018427387904) (hm : m ≤ 4611686018427387904) (hn' : n' ≤ 4611686018427387904) (hm' : m' ≤ 4611686018427387904) :
    Calls Try.prog 34 #[.agg #[.slice A n c, .slice B m d, .int .i64 (x 0), .int .i64 (x 1), .int .i64 (x 2), .int .i64 (x 3), .int .i64 (x 4), .int .i64 (x 5)], .agg #[.slice A' n' c', .slice B' m' d', .int .i64 (y 0), .int .i64 (y 1), .int .i64 (y 2), .int .i64 (y 3), .int .i64 (y 4), .int .i64 (y 5)]] w fun e w' => e = .returned (.bool (sameB n m S R x n' m' T U y)) ∧ Below w.heap.size w w' := by
  have HB := Lib.hid (below_al (below_al (Below.refl w.heap.size w) (.cells #[.slice A n c, .slice B m d, .int .i64 (x 0), .int .i64 (x 1), .int .i64 (x 2), .int .i64 (x 3), .int .i64 (x 4), .int .i64 (x 5)] 35)) (.cells #[.slice A' n' c', .slice B' m' d', .int .i64 (y 0), .int .i64 (y 1), .int .i64 (y 2), .int .i64 (y 3), .int .i64 (y 4), .int .i64 (y 5)] 35))
  have H1 := Lib.hid (equal93 A n c A' n' c' S T _ (h.below HB.out) (k.below HB.out) hn hn')
  have H2 := Lib.hid (fun W (hb : Below w.heap.size w W) => equal94 B m d B' m' d' R U W (h2.below hb) (k2.below hb) hm hm')
  have K1 := Lib.hid (alloc_old (.cells #[.slice A' n' c', .slice B' m' d', .int .i64 (y 0), .int .i64 (y 1), .int .i64 (y 2), .int .i64 (y 3), .int .i64 (y 4), .int .i64 (y 5)] 35) (heap_new w (.cells #[.slice A n c, .slice B m d, .int .i64 (x 0), .int .i64 (x 1), .int .i64 (x 2), .int .i64 (x 3), .int .i64 (x 4), .int .i64 (x 5)] 35)))
  have K2 := Lib.hid (heap_new2 w (.cells #[.slice A n c, .slice B m d, .int .i64 (x 0), .int .i64 (x 1), .int .i64 (x 2), .int .i64 (x 3), .int .i64 (x 4), .int .i64 (x 5)] 35) (.cells #[.slice A' n' c', .slice B' m' d', .int .i64 (y 0), .int .i64 (y 1), .int .i64 (y 2), .int .i64 (y 3), .int .i64 (y 4), .int .i64 (y 5)] 35))
  have q3 := eq32 (fun j => x (1 + j)) (fun j => y (1 + j))
  have q2 := eq33 (fun j => x (4 + j)) (fun j => y (4 + j))
  dsimp only [Nat.reduceAdd] at q3 q2
  unfold sameB
  clear h h2 k k2
  generalize (decide (n = n') && eqTab 16 S T n) = e1 at H1 ⊢
  generalize (decide (m = m') && eqTab 2 R U m) = e2 at H2 ⊢
  generalize eqRow 3 (fun j => x (1 + j)) (fun j => y (1 + j)) = e4 at q3 ⊢
  generalize eqRow 2 (fun j => x (4 + j)) (fun j => y (4 + j)) = e5 at q2 ⊢
  generalize he3 : (x 0 == y 0) = e3
  cases e1
  · go_enter Try.func34, Try.ntmps34
    go_wp2_with fail
    refine H1.out.mono ?_
    rintro e w1 ⟨rfl, hb1⟩
    have B1 := Lib.hid (below_all HB.out hb1)
    clear hb1
    go_wp2_with fail
    go_ret
    exact ⟨rfl, B1.out⟩
  · go_enter Try.func34, Try.ntmps34
    go_wp2_with fail
    refine H1.out.mono ?_
    rintro e w1 ⟨rfl, hb1⟩
    have B1 := Lib.hid (below_all HB.out hb1)
    have a1 := cell_heap (j := 1) (block_keep hb1 (lt_of_heap K1.out) K1.out) rfl
    have b1 := cell_heap (j := 1) (block_keep hb1 (lt_of_heap K2.out) K2.out) rfl
    have L1 := Lib.hid (block_keep hb1 (lt_of_heap K1.out) K1.out)
    have L2 := Lib.hid (block_keep hb1 (lt_of_heap K2.out) K2.out)
    clear hb1
    go_wp2_with fail
    refine (H2.out _ B1.out).mono ?_
    rintro e w2 ⟨rfl, hb2⟩
    have B2 := Lib.hid (below_all B1.out hb2)
    have a2 := cell_heap (j := 2) (block_keep hb2 (lt_of_heap L1.out) L1.out) rfl
    have b2 := cell_heap (j := 2) (block_keep hb2 (lt_of_heap L2.out) L2.out) rfl
    have a3 := cell_heap (j := 3) (block_keep hb2 (lt_of_heap L1.out) L1.out) rfl
    have b3 := cell_heap (j := 3) (block_keep hb2 (lt_of_heap L2.out) L2.out) rfl
    have a4 := cell_heap (j := 4) (block_keep hb2 (lt_of_heap L1.out) L1.out) rfl
    have b4 := cell_heap (j := 4) (block_keep hb2 (lt_of_heap L2.out) L2.out) rfl
    have a5 := cell_heap (j := 5) (block_keep hb2 (lt_of_heap L1.out) L1.out) rfl
    have b5 := cell_heap (j := 5) (block_keep hb2 (lt_of_heap L2.out) L2.out) rfl
    have a6 := cell_heap (j := 6) (block_keep hb2 (lt_of_heap L1.out) L1.out) rfl
    have b6 := cell_heap (j := 6) (block_keep hb2 (lt_of_heap L2.out) L2.out) rfl
    have a7 := cell_heap (j := 7) (block_keep hb2 (lt_of_heap L1.out) L1.out) rfl
    have b7 := cell_heap (j := 7) (block_keep hb2 (lt_of_heap L2.out) L2.out) rfl
    clear hb2 a1 b1
    cases e2
    · go_wp2_with fail
      go_ret
      exact ⟨rfl, B2.out⟩
    · cases e3
      · go_wp2_with fail
        go_ret
        exact ⟨rfl, B2.out⟩
      · cases e4
        · go_wp2_with fail
          go_ret
          exact ⟨rfl, B2.out⟩
        · go_wp2_with fail
          go_ret
          exact ⟨rfl, B2.out⟩

end Go.Proofs.Ythhkcckikmldcaa
