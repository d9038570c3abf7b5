/-
  The walk of ConfigEncodes. (Written by gen_wce.py, a program of this session's own.)
-/
import Derived.Test.YthhkcckikmldcaaEnc10
import Derived.Deep.RegionHeld3
set_option linter.unusedVariables false
set_option linter.unusedSimpArgs false
namespace Go.Proofs.Ythhkcckikmldcaa
open Go.RowKit

theorem drew_rb {W : World} {A : Option Addr} {l : List UInt8} (h : RB W A l) : RB W.drew A l := h
theorem enc_same {n m : Nat} {S R : Nat → Nat → Int} {x : Nat → Int} {l l' : List UInt8} (h1 : chkF n S m R x = 0 → l = encC n S m R x) (h2 : chkF n S m R x ≠ 0 → l = []) (k1 : chkF n S m R x = 0 → l' = encC n S m R x) (k2 : chkF n S m R x ≠ 0 → l' = []) : l = l' := by
  by_cases h : chkF n S m R x = 0
  · rw [h1 h, k1 h]
  · rw [h2 h, k2 h]

theorem encode_any (A : Option Addr) (n c : Nat) (B : Option Addr) (m d : Nat) (S R : Nat → Nat → Int) (x : Nat → Int) (w : World) (h : CfgIn w A n c B m d S R x) : Calls Try.prog 32 #[.agg #[.slice A n c, .slice B m d, .int .i64 (x 0), .int .i64 (x 1), .int .i64 (x 2), .int .i64 (x 3), .int .i64 (x 4), .int .i64 (x 5)]] w (EncPost n S m R x w) := by
  by_cases hz : chkF n S m R x = 0
  · exact encode_yes A n c B m d S R x w h hz
  · exact encode_no A n c B m d S R x w h hz
theorem refEncode_any (A : Option Addr) (n c : Nat) (B : Option Addr) (m d : Nat) (S R : Nat → Nat → Int) (x : Nat → Int) (w : World) (h : CfgIn w A n c B m d S R x) : Calls Try.prog 66 #[.agg #[.slice A n c, .slice B m d, .int .i64 (x 0), .int .i64 (x 1), .int .i64 (x 2), .int .i64 (x 3), .int .i64 (x 4), .int .i64 (x 5)]] w (EncPost n S m R x w) := by
  by_cases hz : chkF n S m R x = 0
  · exact refEncode_yes A n c B m d S R x w h hz
  · exact refEncode_no A n c B m d S R x w h hz

set_option maxRecDepth 100000 in
set_option maxHeartbeats 8000000 in
theorem walkConfigEncodes (w : World) (A : Option Addr) (n c : Nat) (B : Option Addr) (m d : Nat) (S R : Nat → Nat → Int) (x : Nat → Int) (h : CfgIn w A n c B m d S R x)
    (A' : Option Addr) (n' c' : Nat) (B' : Option Addr) (m' d' : Nat) (T U : Nat → Nat → Int) (y : Nat → Int) (k : CfgIn w A' n' c' B' m' d' T U y) :
    Calls Try.prog 16 #[.agg #[.slice A n c, .slice B m d, .int .i64 (x 0), .int .i64 (x 1), .int .i64 (x 2), .int .i64 (x 3), .int .i64 (x 4), .int .i64 (x 5)], .agg #[.slice A' n' c', .slice B' m' d', .int .i64 (y 0), .int .i64 (y 1), .int .i64 (y 2), .int .i64 (y 3), .int .i64 (y 4), .int .i64 (y 5)]] w fun e w' => e = .returned (.bool true) ∧ Below w.heap.size w w' := by
  have HB := Lib.hid (below_al (below_al (Below.refl w.heap.size w) (.cells #[.slice A n c, .slice B m d, .int .i64 (x 0), .int .i64 (x 1), .int .i64 (x 2), .int .i64 (x 3), .int .i64 (x 4), .int .i64 (x 5)] 35)) (.cells #[.slice A' n' c', .slice B' m' d', .int .i64 (y 0), .int .i64 (y 1), .int .i64 (y 2), .int .i64 (y 3), .int .i64 (y 4), .int .i64 (y 5)] 35))
  have K1 := Lib.hid (alloc_old (.cells #[.slice A' n' c', .slice B' m' d', .int .i64 (y 0), .int .i64 (y 1), .int .i64 (y 2), .int .i64 (y 3), .int .i64 (y 4), .int .i64 (y 5)] 35) (heap_new w (.cells #[.slice A n c, .slice B m d, .int .i64 (x 0), .int .i64 (x 1), .int .i64 (x 2), .int .i64 (x 3), .int .i64 (x 4), .int .i64 (x 5)] 35)))
  have K2 := Lib.hid (heap_new2 w (.cells #[.slice A n c, .slice B m d, .int .i64 (x 0), .int .i64 (x 1), .int .i64 (x 2), .int .i64 (x 3), .int .i64 (x 4), .int .i64 (x 5)] 35) (.cells #[.slice A' n' c', .slice B' m' d', .int .i64 (y 0), .int .i64 (y 1), .int .i64 (y 2), .int .i64 (y 3), .int .i64 (y 4), .int .i64 (y 5)] 35))
  have HL1 := Lib.hid (fun W => light7_any A n c B m d x W (Nat.le_trans h.nc h.cm) (Nat.le_trans h.md h.dm))
  have HL2 := Lib.hid (fun W => light7_any A' n' c' B' m' d' y W (Nat.le_trans k.nc k.cm) (Nat.le_trans k.md k.dm))
  by_cases l1 : (decide (n ≤ 20) && decide (m ≤ 40)) = true
  · by_cases l2 : (decide (n' ≤ 20) && decide (m' ≤ 40)) = true
    · have s1 := l1
      have s2 := l2
      simp only [Bool.and_eq_true, decide_eq_true_eq] at s1 s2
      have HE := Lib.hid (fun W (hb : Below w.heap.size w W) => encode_any A n c B m d S R x W (h.below hb))
      have HF := Lib.hid (fun W (hb : Below w.heap.size w W) => refEncode_any A n c B m d S R x W (h.below hb))
      have HS := Lib.hid (fun W (hb : Below w.heap.size w W) => cfgSame_any A n c B m d S R x A' n' c' B' m' d' T U y W (h.syms.below hb) (h.rows.below hb) (k.syms.below hb) (k.rows.below hb) (by omega) (by omega) (by omega) (by omega))
      have HT := Lib.hid (fun W (hb : Below w.heap.size w W) => refSame_any A n c B m d S R x A' n' c' B' m' d' T U y W (h.syms.below hb) (h.rows.below hb) (k.syms.below hb) (k.rows.below hb) (by omega) (by omega) (by omega) (by omega))
      rw [l1] at HL1
      rw [l2] at HL2
      clear h k l1 l2 s1 s2
      generalize sameB n m S R x n' m' T U y = sb at HS HT
      go_enter Try.func16, Try.ntmps16
      go_wp2_with fail
      refine (HL1.out _).mono ?_
      rintro e w1 ⟨rfl, hb1⟩
      have B1 := Lib.hid (below_all HB.out hb1)
      have M1 := Lib.hid (block_keep hb1 (lt_of_heap K1.out) K1.out)
      have M2 := Lib.hid (block_keep hb1 (lt_of_heap K2.out) K2.out)
      have y0 := cell_heap (j := 0) M2.out rfl
      have y1 := cell_heap (j := 1) M2.out rfl
      have y2 := cell_heap (j := 2) M2.out rfl
      have y3 := cell_heap (j := 3) M2.out rfl
      have y4 := cell_heap (j := 4) M2.out rfl
      have y5 := cell_heap (j := 5) M2.out rfl
      have y6 := cell_heap (j := 6) M2.out rfl
      have y7 := cell_heap (j := 7) M2.out rfl
      clear hb1 HB K1 K2
      go_wp2_with fail
      refine (HL2.out _).mono ?_
      rintro e w2 ⟨rfl, hb2⟩
      have B2 := Lib.hid (below_all B1.out hb2)
      have N1 := Lib.hid (block_keep hb2 (lt_of_heap M1.out) M1.out)
      have N2 := Lib.hid (block_keep hb2 (lt_of_heap M2.out) M2.out)
      have z0 := cell_heap (j := 0) N1.out rfl
      have z1 := cell_heap (j := 1) N1.out rfl
      have z2 := cell_heap (j := 2) N1.out rfl
      have z3 := cell_heap (j := 3) N1.out rfl
      have z4 := cell_heap (j := 4) N1.out rfl
      have z5 := cell_heap (j := 5) N1.out rfl
      have z6 := cell_heap (j := 6) N1.out rfl
      have z7 := cell_heap (j := 7) N1.out rfl
      clear hb2 B1 M1 M2 y0 y1 y2 y3 y4 y5 y6 y7
      go_wp2_with fail
      refine (HE.out _ B2.out).mono ?_
      rintro e w3 ⟨v3, l3, rfl, o3, p3, q3, hb3⟩
      have B3 := Lib.hid (below_all B2.out hb3)
      have M1 := Lib.hid (block_keep hb3 (lt_of_heap N1.out) N1.out)
      have M2 := Lib.hid (block_keep hb3 (lt_of_heap N2.out) N2.out)
      obtain ⟨A3, c3, rfl, r3⟩ := o3.reads
      have R3 := Lib.hid r3
      have E3 := Lib.hid (And.intro p3 q3)
      have u0 := cell_heap (j := 0) M1.out rfl
      have u1 := cell_heap (j := 1) M1.out rfl
      have u2 := cell_heap (j := 2) M1.out rfl
      have u3 := cell_heap (j := 3) M1.out rfl
      have u4 := cell_heap (j := 4) M1.out rfl
      have u5 := cell_heap (j := 5) M1.out rfl
      have u6 := cell_heap (j := 6) M1.out rfl
      have u7 := cell_heap (j := 7) M1.out rfl
      clear hb3 B2 N1 N2 o3 r3 p3 q3 z0 z1 z2 z3 z4 z5 z6 z7
      go_wp2_with fail
      refine (HF.out _ B3.out).mono ?_
      rintro e w4 ⟨v4, l4, rfl, o4, p4, q4, hb4⟩
      have B4 := Lib.hid (below_all B3.out hb4)
      have N1 := Lib.hid (block_keep hb4 (lt_of_heap M1.out) M1.out)
      have N2 := Lib.hid (block_keep hb4 (lt_of_heap M2.out) M2.out)
      obtain ⟨A4, c4, rfl, r4⟩ := o4.reads
      have R4 := Lib.hid (R3.out.below hb4)
      obtain rfl : l3 = l4 := enc_same E3.out.1 E3.out.2 p4 q4
      have R5 := Lib.hid r4
      clear hb4 B3 M1 M2 o4 r4 p4 q4 E3 R3 u0 u1 u2 u3 u4 u5 u6 u7
      generalize chkF n S m R x = ff
      generalize hll : l3.length = ll
      have HLL := Lib.hid hll
      have HC35 := Lib.hid (fun (W : World) (a : RB W A3 l3) (b : RB W A4 l3) => sameBytes A3 A4 l3 c3 c4 W a b)
      rw [HLL.out] at HC35
      clear hll HLL HE HF HL1 HL2
      go_wp2_with fail
      have ra0 : ∀ W : World, W.heap[w.heap.size]? = some (.cells #[.slice A n c, .slice B m d, .int .i64 (x 0), .int .i64 (x 1), .int .i64 (x 2), .int .i64 (x 3), .int .i64 (x 4), .int .i64 (x 5)] 35 (0, 0)) → W.cell? ⟨w.heap.size, 0, none⟩ = some (.slice A n c) := fun W h => cell_heap h rfl
      have ra1 : ∀ W : World, W.heap[w.heap.size]? = some (.cells #[.slice A n c, .slice B m d, .int .i64 (x 0), .int .i64 (x 1), .int .i64 (x 2), .int .i64 (x 3), .int .i64 (x 4), .int .i64 (x 5)] 35 (0, 0)) → W.cell? ⟨w.heap.size, 1, none⟩ = some (.slice B m d) := fun W h => cell_heap h rfl
      have ra2 : ∀ W : World, W.heap[w.heap.size]? = some (.cells #[.slice A n c, .slice B m d, .int .i64 (x 0), .int .i64 (x 1), .int .i64 (x 2), .int .i64 (x 3), .int .i64 (x 4), .int .i64 (x 5)] 35 (0, 0)) → W.cell? ⟨w.heap.size, 2, none⟩ = some (.int .i64 (x 0)) := fun W h => cell_heap h rfl
      have ra3 : ∀ W : World, W.heap[w.heap.size]? = some (.cells #[.slice A n c, .slice B m d, .int .i64 (x 0), .int .i64 (x 1), .int .i64 (x 2), .int .i64 (x 3), .int .i64 (x 4), .int .i64 (x 5)] 35 (0, 0)) → W.cell? ⟨w.heap.size, 3, none⟩ = some (.int .i64 (x 1)) := fun W h => cell_heap h rfl
      have ra4 : ∀ W : World, W.heap[w.heap.size]? = some (.cells #[.slice A n c, .slice B m d, .int .i64 (x 0), .int .i64 (x 1), .int .i64 (x 2), .int .i64 (x 3), .int .i64 (x 4), .int .i64 (x 5)] 35 (0, 0)) → W.cell? ⟨w.heap.size, 4, none⟩ = some (.int .i64 (x 2)) := fun W h => cell_heap h rfl
      have ra5 : ∀ W : World, W.heap[w.heap.size]? = some (.cells #[.slice A n c, .slice B m d, .int .i64 (x 0), .int .i64 (x 1), .int .i64 (x 2), .int .i64 (x 3), .int .i64 (x 4), .int .i64 (x 5)] 35 (0, 0)) → W.cell? ⟨w.heap.size, 5, none⟩ = some (.int .i64 (x 3)) := fun W h => cell_heap h rfl
      have ra6 : ∀ W : World, W.heap[w.heap.size]? = some (.cells #[.slice A n c, .slice B m d, .int .i64 (x 0), .int .i64 (x 1), .int .i64 (x 2), .int .i64 (x 3), .int .i64 (x 4), .int .i64 (x 5)] 35 (0, 0)) → W.cell? ⟨w.heap.size, 6, none⟩ = some (.int .i64 (x 4)) := fun W h => cell_heap h rfl
      have ra7 : ∀ W : World, W.heap[w.heap.size]? = some (.cells #[.slice A n c, .slice B m d, .int .i64 (x 0), .int .i64 (x 1), .int .i64 (x 2), .int .i64 (x 3), .int .i64 (x 4), .int .i64 (x 5)] 35 (0, 0)) → W.cell? ⟨w.heap.size, 7, none⟩ = some (.int .i64 (x 5)) := fun W h => cell_heap h rfl
      have rb0 : ∀ W : World, W.heap[w.heap.size + 1]? = some (.cells #[.slice A' n' c', .slice B' m' d', .int .i64 (y 0), .int .i64 (y 1), .int .i64 (y 2), .int .i64 (y 3), .int .i64 (y 4), .int .i64 (y 5)] 35 (0, 0)) → W.cell? ⟨w.heap.size + 1, 0, none⟩ = some (.slice A' n' c') := fun W h => cell_heap h rfl
      have rb1 : ∀ W : World, W.heap[w.heap.size + 1]? = some (.cells #[.slice A' n' c', .slice B' m' d', .int .i64 (y 0), .int .i64 (y 1), .int .i64 (y 2), .int .i64 (y 3), .int .i64 (y 4), .int .i64 (y 5)] 35 (0, 0)) → W.cell? ⟨w.heap.size + 1, 1, none⟩ = some (.slice B' m' d') := fun W h => cell_heap h rfl
      have rb2 : ∀ W : World, W.heap[w.heap.size + 1]? = some (.cells #[.slice A' n' c', .slice B' m' d', .int .i64 (y 0), .int .i64 (y 1), .int .i64 (y 2), .int .i64 (y 3), .int .i64 (y 4), .int .i64 (y 5)] 35 (0, 0)) → W.cell? ⟨w.heap.size + 1, 2, none⟩ = some (.int .i64 (y 0)) := fun W h => cell_heap h rfl
      have rb3 : ∀ W : World, W.heap[w.heap.size + 1]? = some (.cells #[.slice A' n' c', .slice B' m' d', .int .i64 (y 0), .int .i64 (y 1), .int .i64 (y 2), .int .i64 (y 3), .int .i64 (y 4), .int .i64 (y 5)] 35 (0, 0)) → W.cell? ⟨w.heap.size + 1, 3, none⟩ = some (.int .i64 (y 1)) := fun W h => cell_heap h rfl
      have rb4 : ∀ W : World, W.heap[w.heap.size + 1]? = some (.cells #[.slice A' n' c', .slice B' m' d', .int .i64 (y 0), .int .i64 (y 1), .int .i64 (y 2), .int .i64 (y 3), .int .i64 (y 4), .int .i64 (y 5)] 35 (0, 0)) → W.cell? ⟨w.heap.size + 1, 4, none⟩ = some (.int .i64 (y 2)) := fun W h => cell_heap h rfl
      have rb5 : ∀ W : World, W.heap[w.heap.size + 1]? = some (.cells #[.slice A' n' c', .slice B' m' d', .int .i64 (y 0), .int .i64 (y 1), .int .i64 (y 2), .int .i64 (y 3), .int .i64 (y 4), .int .i64 (y 5)] 35 (0, 0)) → W.cell? ⟨w.heap.size + 1, 5, none⟩ = some (.int .i64 (y 3)) := fun W h => cell_heap h rfl
      have rb6 : ∀ W : World, W.heap[w.heap.size + 1]? = some (.cells #[.slice A' n' c', .slice B' m' d', .int .i64 (y 0), .int .i64 (y 1), .int .i64 (y 2), .int .i64 (y 3), .int .i64 (y 4), .int .i64 (y 5)] 35 (0, 0)) → W.cell? ⟨w.heap.size + 1, 6, none⟩ = some (.int .i64 (y 4)) := fun W h => cell_heap h rfl
      have rb7 : ∀ W : World, W.heap[w.heap.size + 1]? = some (.cells #[.slice A' n' c', .slice B' m' d', .int .i64 (y 0), .int .i64 (y 1), .int .i64 (y 2), .int .i64 (y 3), .int .i64 (y 4), .int .i64 (y 5)] 35 (0, 0)) → W.cell? ⟨w.heap.size + 1, 7, none⟩ = some (.int .i64 (y 5)) := fun W h => cell_heap h rfl
      have q0 := B4.out
      have q1 := N1.out
      have q2 := N2.out
      have q4 := R4.out
      have q5 := R5.out
      go_region_held3 (fun w' => Below w.heap.size w w' ∧ w'.heap[w.heap.size]? = some (.cells #[.slice A n c, .slice B m d, .int .i64 (x 0), .int .i64 (x 1), .int .i64 (x 2), .int .i64 (x 3), .int .i64 (x 4), .int .i64 (x 5)] 35 (0, 0)) ∧ w'.heap[w.heap.size + 1]? = some (.cells #[.slice A' n' c', .slice B' m' d', .int .i64 (y 0), .int .i64 (y 1), .int .i64 (y 2), .int .i64 (y 3), .int .i64 (y 4), .int .i64 (y 5)] 35 (0, 0)) ∧ RB w' A3 l3 ∧ RB w' A4 l3)
        (first | (go_split_ands; refine ⟨?_, ?_, ?_, ?_, ?_⟩ <;> (first | (with_reducible assumption) | (with_reducible exact below_all (by assumption) (by assumption)) | (with_reducible exact block_keep (by assumption) (lt_of_heap (by assumption)) (by assumption)) | (with_reducible exact RB.below (by assumption) (by assumption)) | (with_reducible exact drew_belowE q0) | (with_reducible exact drew_heapE q1) | (with_reducible exact drew_heapE q2) | (with_reducible exact drew_rb q4) | (with_reducible exact drew_rb q5))))
        (first | (go_at_call 35; go_split_ands; refine (HC35.out _ (by assumption) (by assumption)).mono ?_; rintro e w5 ⟨rfl, rfl⟩) | (go_at_call 34; go_split_ands; refine (HS.out _ (by assumption)).mono ?_; rintro e w5 ⟨rfl, hq1⟩) | (go_at_call 30; go_split_ands; refine (HT.out _ (by assumption)).mono ?_; rintro e w6 ⟨rfl, hq2⟩) | (go_at_call 27; refine (alive7 _).mono ?_; rintro e w7 ⟨rfl, hq3⟩))
      all_goals (clear ra0 ra1 ra2 ra3 ra4 ra5 ra6 ra7 rb0 rb1 rb2 rb3 rb4 rb5 rb6 rb7 q1 q2 q4 q5)
      all_goals go_wp2_with fail
      all_goals go_ret
      all_goals refine ⟨by first | rfl | (cases sb <;> rfl) | (simp), ?_⟩
      all_goals first
        | exact below_all (below_all (below_all (drew_belowE q0) hq1) hq2) hq3
        | exact below_all (below_all (below_all (drew_belowE q0) hq2) hq1) hq3
    · rw [Bool.not_eq_true] at l2
      rw [l1] at HL1
      rw [l2] at HL2
      clear h k l1 l2
      go_enter Try.func16, Try.ntmps16
      go_wp2_with fail
      refine (HL1.out _).mono ?_
      rintro e w1 ⟨rfl, hb1⟩
      have B1 := Lib.hid (below_all HB.out hb1)
      have M2 := Lib.hid (block_keep hb1 (lt_of_heap K2.out) K2.out)
      have y0 := cell_heap (j := 0) M2.out rfl
      have y1 := cell_heap (j := 1) M2.out rfl
      have y2 := cell_heap (j := 2) M2.out rfl
      have y3 := cell_heap (j := 3) M2.out rfl
      have y4 := cell_heap (j := 4) M2.out rfl
      have y5 := cell_heap (j := 5) M2.out rfl
      have y6 := cell_heap (j := 6) M2.out rfl
      have y7 := cell_heap (j := 7) M2.out rfl
      clear hb1 HB K1 K2
      go_wp2_with fail
      refine (HL2.out _).mono ?_
      rintro e w2 ⟨rfl, hb2⟩
      have B2 := Lib.hid (below_all B1.out hb2)
      clear hb2 B1 M2 y0 y1 y2 y3 y4 y5 y6 y7
      go_wp2_with fail
      refine (alive7 _).mono ?_
      rintro e w9 ⟨rfl, hb9⟩
      go_wp2_with fail
      go_ret
      exact ⟨rfl, below_all B2.out hb9⟩
  · rw [Bool.not_eq_true] at l1
    rw [l1] at HL1
    clear h k l1
    go_enter Try.func16, Try.ntmps16
    go_wp2_with fail
    refine (HL1.out _).mono ?_
    rintro e w1 ⟨rfl, hb1⟩
    have B2 := Lib.hid (below_all HB.out hb1)
    clear hb1 HB
    go_wp2_with fail
    refine (alive7 _).mono ?_
    rintro e w9 ⟨rfl, hb9⟩
    go_wp2_with fail
    go_ret
    exact ⟨rfl, below_all B2.out hb9⟩

end Go.Proofs.Ythhkcckikmldcaa
