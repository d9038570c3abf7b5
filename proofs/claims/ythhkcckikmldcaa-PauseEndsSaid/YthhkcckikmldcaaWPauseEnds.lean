/-
  The walk of PauseEnds. (Written by gen_wpe.py, a program of this session's own.)
-/
import Derived.Test.YthhkcckikmldcaaPe1
import Derived.Deep.LoopGhost
set_option linter.unusedVariables false
set_option linter.unusedSimpArgs false
namespace Go.Proofs.Ythhkcckikmldcaa
open Go.RowKit

set_option maxRecDepth 100000 in
set_option maxHeartbeats 16000000 in
theorem walkPauseEnds (w : World) (g : Nat → Int) (hg : ∀ j, j < 16 → i64Ok (g j)) (x : Int) (hx : -9223372036854775808 ≤ x ∧ x ≤ 9223372036854775807) (A : Option Addr) (n c : Nat) (hnc : n ≤ c) (hmx : c ≤ 9223372036854775807) (G : Nat → Nat → Int) (HT : Tab w A n 1 G) (HG : ∀ i, i < n → ∀ j, j < 1 → i64Ok (G i j)) (b : Nat → Int) (hbd : ∀ j, j < 2 → i64Ok (b j)) :
    Calls Try.prog 12 #[.agg #[.int .i64 (g 0), .int .i64 (g 1), .int .i64 (g 2), .int .i64 (g 3), .int .i64 (g 4), .int .i64 (g 5), .int .i64 (g 6), .int .i64 (g 7), .int .i64 (g 8), .int .i64 (g 9), .int .i64 (g 10), .int .i64 (g 11), .int .i64 (g 12), .int .i64 (g 13), .int .i64 (g 14), .int .i64 (g 15)], .int .i64 x, .slice A n c, .agg #[.int .i64 (b 0), .int .i64 (b 1)]] w fun e w' => e = .returned (.bool true) ∧ Below w.heap.size w w' := by
  have HC := Lib.hid (symbol_any g ((w.alloc (.cells #[.int .i64 (g 0), .int .i64 (g 1), .int .i64 (g 2), .int .i64 (g 3), .int .i64 (g 4), .int .i64 (g 5), .int .i64 (g 6), .int .i64 (g 7), .int .i64 (g 8), .int .i64 (g 9), .int .i64 (g 10), .int .i64 (g 11), .int .i64 (g 12), .int .i64 (g 13), .int .i64 (g 14), .int .i64 (g 15)] 56)).alloc (.cells #[.int .i64 (b 0), .int .i64 (b 1)] 75)) (fun j hj => (hg j hj).2))
  have h0 : ((w.alloc (.cells #[.int .i64 (g 0), .int .i64 (g 1), .int .i64 (g 2), .int .i64 (g 3), .int .i64 (g 4), .int .i64 (g 5), .int .i64 (g 6), .int .i64 (g 7), .int .i64 (g 8), .int .i64 (g 9), .int .i64 (g 10), .int .i64 (g 11), .int .i64 (g 12), .int .i64 (g 13), .int .i64 (g 14), .int .i64 (g 15)] 56)).alloc (.cells #[.int .i64 (b 0), .int .i64 (b 1)] 75)).heap[w.heap.size]? = some (.cells #[.int .i64 (g 0), .int .i64 (g 1), .int .i64 (g 2), .int .i64 (g 3), .int .i64 (g 4), .int .i64 (g 5), .int .i64 (g 6), .int .i64 (g 7), .int .i64 (g 8), .int .i64 (g 9), .int .i64 (g 10), .int .i64 (g 11), .int .i64 (g 12), .int .i64 (g 13), .int .i64 (g 14), .int .i64 (g 15)] 56 (0, 0)) := alloc_old _ (heap_new _ _)
  have h1 : ((w.alloc (.cells #[.int .i64 (g 0), .int .i64 (g 1), .int .i64 (g 2), .int .i64 (g 3), .int .i64 (g 4), .int .i64 (g 5), .int .i64 (g 6), .int .i64 (g 7), .int .i64 (g 8), .int .i64 (g 9), .int .i64 (g 10), .int .i64 (g 11), .int .i64 (g 12), .int .i64 (g 13), .int .i64 (g 14), .int .i64 (g 15)] 56)).alloc (.cells #[.int .i64 (b 0), .int .i64 (b 1)] 75)).heap[w.heap.size + 1]? = some (.cells #[.int .i64 (b 0), .int .i64 (b 1)] 75 (0, 0)) := alloc_new _ (by simp)
  have K0 := Lib.hid h0
  have K1 := Lib.hid h1
  have T := Lib.hid HT
  have HLat := Lib.hid (fun W => latest_any g x W (fun j hj => (hg j hj).2))
  have HBe := Lib.hid (fun W => begin_any g x W)
  obtain ⟨hx1, hx2⟩ := hx
  clear h0 h1 hbd hg HT HG
  by_cases hz : symF g = 0
  · by_cases c1 : x < 0
    · rw [hz] at HC
      clear hz
      go_enter Try.func12, Try.ntmps12
      go_wp2_with fail
      refine (HC.out).mono ?_
      rintro e w1 ⟨rfl, hb1⟩
      go_wp2_with fail
      refine (alive22 _).mono ?_
      rintro e w2 ⟨rfl, hb2⟩
      go_wp2_with fail
      go_ret
      exact ⟨rfl, below_all (below_all (below_al (below_al (Below.refl _ _) _) _) hb1) hb2⟩
    · by_cases c2 : 576460752303423488 < x
      · rw [hz] at HC
        clear hz
        go_enter Try.func12, Try.ntmps12
        go_wp2_with fail
        refine (HC.out).mono ?_
        rintro e w1 ⟨rfl, hb1⟩
        go_wp2_with fail
        refine (alive22 _).mono ?_
        rintro e w2 ⟨rfl, hb2⟩
        go_wp2_with fail
        go_ret
        exact ⟨rfl, below_all (below_all (below_al (below_al (Below.refl _ _) _) _) hb1) hb2⟩
      · by_cases c3 : 40 < n
        · have c3' : (40 : Int) < (n : Int) := by omega
          rw [hz] at HC
          clear hz
          go_enter Try.func12, Try.ntmps12
          go_wp2_with fail
          refine (HC.out).mono ?_
          rintro e w1 ⟨rfl, hb1⟩
          go_wp2_with fail
          refine (alive22 _).mono ?_
          rintro e w2 ⟨rfl, hb2⟩
          go_wp2_with fail
          go_ret
          exact ⟨rfl, below_all (below_all (below_al (below_al (Below.refl _ _) _) _) hb1) hb2⟩
        · have c3' : ¬ (40 : Int) < (n : Int) := by omega
          have BF := Lib.hid (show boundF g = g 7 + g 8 * (g 9 + 1) from if_pos hz)
          have SP := Lib.hid (sym_pause hz)
          rw [BF.out] at HLat
          have q1 : wrap64 (x + g 7) = x + g 7 := wrap_ok (by have := SP.out; omega) (by have := SP.out; omega)
          rw [q1] at HBe
          rw [hz] at HC
          clear hz q1
          go_enter Try.func12, Try.ntmps12
          go_wp2_with fail
          refine (HC.out).mono ?_
          rintro e w1 ⟨rfl, hb1⟩
          have g0 := block_keep hb1 (lt_of_heap K0.out) K0.out
          have g1 := block_keep hb1 (lt_of_heap K1.out) K1.out
          have B1 := Lib.hid (below_all (below_al (below_al (Below.refl _ _) _) _) hb1 : Below w.heap.size w w1)
          have g2 := g1
          clear hb1
          go_wp2_with (first | (refine wpList_load_blk 56 _ rfl rfl _ rfl 56 _ _ _ g0 Try.underlying56 rfl (by kernel_rfl) ?_) | (refine wpList_load_blk 75 _ rfl rfl _ rfl 75 _ _ _ g1 Try.underlying75 rfl (by kernel_rfl) ?_) | (refine wpList_load_blk 61 _ rfl rfl _ rfl 61 _ _ _ g2 Try.underlying61 rfl (by kernel_rfl) ?_))
          refine (HBe.out _).mono ?_
          rintro e w2 ⟨rfl, hb2⟩
          have d0 := block_keep hb2 (lt_of_heap g0) g0
          have d1 := block_keep hb2 (lt_of_heap g1) g1
          have B2 := Lib.hid (below_all B1.out hb2)
          clear hb2 g0 g1 g2
          go_wp2_with fail
          have hN : w.heap.size + 1 < w2.heap.size := lt_of_heap d1
          have f0 := alloc_old (.cells #[.int .i64 3, .int .i64 0, .int .i64 (x + g 7)] 61) d0
          have f1 := alloc_old (.cells #[.int .i64 3, .int .i64 0, .int .i64 (x + g 7)] 61) d1
          have f2 := heap_new w2 (.cells #[.int .i64 3, .int .i64 0, .int .i64 (x + g 7)] 61)
          have B3 := Lib.hid (below_al B2.out (.cells #[.int .i64 3, .int .i64 0, .int .i64 (x + g 7)] 61))
          generalize w2.alloc (.cells #[.int .i64 3, .int .i64 0, .int .i64 (x + g 7)] 61) = W3 at f0 f1 f2 B3 ⊢
          generalize w2.heap.size = N at f2 hN ⊢
          have F0 := Lib.hid f0
          have F1 := Lib.hid f1
          have F2 := Lib.hid f2
          have HN := Lib.hid hN
          have RE := Lib.hid (fun (k : Nat) (hk : (k : Int) ≤ g 9) => pause_reach (x := x) (by omega) (by omega) SP.out (by omega) hk)
          clear f0 f1 f2 hN d0 d1 B2 B1 K0 K1 HC HBe BF
          go_loopg [10] 10 (fun gg s10 wr => ∃ k : Nat, 10 - k ≤ gg ∧ s10 = .int .i64 k ∧ Hid (Below w.heap.size w wr) ∧ Hid (wr.heap[w.heap.size]? = some (.cells #[.int .i64 (g 0), .int .i64 (g 1), .int .i64 (g 2), .int .i64 (g 3), .int .i64 (g 4), .int .i64 (g 5), .int .i64 (g 6), .int .i64 (g 7), .int .i64 (g 8), .int .i64 (g 9), .int .i64 (g 10), .int .i64 (g 11), .int .i64 (g 12), .int .i64 (g 13), .int .i64 (g 14), .int .i64 (g 15)] 56 (0, 0))) ∧ Hid (wr.heap[w.heap.size + 1]? = some (.cells #[.int .i64 (b 0), .int .i64 (b 1)] 75 (0, 0))) ∧ Hid ((k : Int) ≤ g 9 ∧ ∃ p u, (p = 3 ∨ p = 4) ∧ u = x + g 7 + k * g 8 ∧ wr.heap[N]? = some (.cells #[.int .i64 p, .int .i64 k, .int .i64 u] 61 (0, 0))))
          case atStart => exact ⟨0, by omega, rfl, B3.out, F0, F1, (⟨by have := SP.out; omega, 3, x + g 7, Or.inl rfl, by simp, F2.out⟩ : _ ∧ ∃ p u, _)⟩
          case round =>
            obtain ⟨k, hg, rfl, BW, L0, L1, KI⟩ := hrel
            obtain ⟨hk, p, u, hp, hu, j2⟩ := KI.out
            have j0 := L0.out
            have j1 := L1.out
            have HDu := Lib.hid (fun W => due_any p k u W)
            unfold dueT at HDu
            rw [goes_yes hp] at HDu
            have ck : (k : Int) < 40 := by have := SP.out; omega
            have rr := RE.out k hk
            have HLa := HLat
            have cu1 : ¬ u ≤ x := by omega
            have cu2 : ¬ wrap64 (x + (g 7 + g 8 * (g 9 + 1))) < u := by omega
            generalize wrap64 (x + (g 7 + g 8 * (g 9 + 1))) = lt at HLa cu2
            have HU := Lib.hid (show wrap64 (u + g 8) = x + g 7 + ((k : Int) + 1) * g 8 by rw [hu]; exact rr.2.2)
            have HK := Lib.hid hk
            have HP := Lib.hid hp
            clear rr hk hu hp HLat
            go_wp2_with (first | (refine wpList_load_blk 56 _ rfl rfl _ rfl 56 _ _ _ j0 Try.underlying56 rfl (by kernel_rfl) ?_) | (refine wpList_load_blk 75 _ rfl rfl _ rfl 75 _ _ _ j1 Try.underlying75 rfl (by kernel_rfl) ?_) | (refine wpList_load_blk 61 _ rfl rfl _ rfl 61 _ _ _ j2 Try.underlying61 rfl (by kernel_rfl) ?_))
            refine (HDu.out _).mono ?_
            rintro e w4 ⟨rfl, hb4⟩
            have d0 := block_keep hb4 (lt_of_heap j0) j0
            have d1 := block_keep hb4 (lt_of_heap j1) j1
            have d2 := block_keep hb4 (lt_of_heap j2) j2
            have B4 := Lib.hid (below_all BW.out hb4)
            clear hb4 j0 j1 j2 BW L0 L1 KI
            have s0 := cell_heap (j := 0) d0 rfl
            have s1 := cell_heap (j := 1) d0 rfl
            have s2 := cell_heap (j := 2) d0 rfl
            have s3 := cell_heap (j := 3) d0 rfl
            have s4 := cell_heap (j := 4) d0 rfl
            have s5 := cell_heap (j := 5) d0 rfl
            have s6 := cell_heap (j := 6) d0 rfl
            have s7 := cell_heap (j := 7) d0 rfl
            have s8 := cell_heap (j := 8) d0 rfl
            have s9 := cell_heap (j := 9) d0 rfl
            have s10 := cell_heap (j := 10) d0 rfl
            have s11 := cell_heap (j := 11) d0 rfl
            have s12 := cell_heap (j := 12) d0 rfl
            have s13 := cell_heap (j := 13) d0 rfl
            have s14 := cell_heap (j := 14) d0 rfl
            have s15 := cell_heap (j := 15) d0 rfl
            go_wp2_with fail
            refine (HLa.out _).mono ?_
            rintro e w5 ⟨rfl, hb5⟩
            have e0 := block_keep hb5 (lt_of_heap d0) d0
            have e1 := block_keep hb5 (lt_of_heap d1) d1
            have e2 := block_keep hb5 (lt_of_heap d2) d2
            have B5 := Lib.hid (below_all B4.out hb5)
            clear hb5 d0 d1 d2 B4 HLa HDu s0 s1 s2 s3 s4 s5 s6 s7 s8 s9 s10 s11 s12 s13 s14 s15
            by_cases ckn : k < n
            · have ckn' : (k : Int) < (n : Int) := by omega
              have nk : ¬ n ≤ k := by omega
              have dnk : decide (n ≤ k) = false := decide_eq_false nk
              obtain ⟨bb, off, rfl, hc⟩ := T.out (by omega)
              have mv := bcell B5.out (hc k ckn 0 (by omega))
              rw [Nat.mul_one, Nat.add_zero] at mv
              generalize G k 0 = y at mv
              clear hc
              by_cases c7 : y = 7
              · subst c7
                have b7 : ((7 : Int) != 7) = false := rfl
                have HM := Lib.hid (fun W => decide_any g p k u 7 0 0 (b 0) (b 1) false W)
                have HD3 := Lib.hid (fun h : decF (g 9) k false (b 0) (b 1) 7 = 3 => dec_more h)
                generalize decF (g 9) k false (b 0) (b 1) 7 = d at HM HD3
                go_wp2_with (first | (refine wpList_load_blk 56 _ rfl rfl _ rfl 56 _ _ _ e0 Try.underlying56 rfl (by kernel_rfl) ?_) | (refine wpList_load_blk 75 _ rfl rfl _ rfl 75 _ _ _ e1 Try.underlying75 rfl (by kernel_rfl) ?_) | (refine wpList_load_blk 61 _ rfl rfl _ rfl 61 _ _ _ e2 Try.underlying61 rfl (by kernel_rfl) ?_))
                refine (HM.out _).mono ?_
                rintro e w6 ⟨rfl, hb6⟩
                have a0 := block_keep hb6 (lt_of_heap e0) e0
                have a2 := block_keep hb6 (lt_of_heap e2) e2
                have A1 := Lib.hid (block_keep hb6 (lt_of_heap e1) e1)
                have B6 := Lib.hid (below_all B5.out hb6)
                clear hb6 e0 e1 e2 B5
                by_cases cd : d = 3
                · have hk1 := HD3.out cd
                  subst cd
                  have HK1 := Lib.hid hk1
                  clear HM HD3 hk1
                  obtain ⟨u2, hu2, hu3⟩ : ∃ u2, u2 = x + g 7 + ((k : Int) + 1) * g 8 ∧ wrap64 (u + g 8) = u2 := ⟨_, rfl, HU.out⟩
                  have HX := Lib.hid (fun W => extend_at g p u u2 k ck hu3 W)
                  have HU2 := Lib.hid hu2
                  clear hu2 hu3 HU
                  go_wp2_with (first | (refine wpList_load_blk 56 _ rfl rfl _ rfl 56 _ _ _ a0 Try.underlying56 rfl (by kernel_rfl) ?_) | (refine wpList_load_blk 75 _ rfl rfl _ rfl 75 _ _ _ a1 Try.underlying75 rfl (by kernel_rfl) ?_) | (refine wpList_load_blk 61 _ rfl rfl _ rfl 61 _ _ _ a2 Try.underlying61 rfl (by kernel_rfl) ?_))
                  refine (HX.out _).mono ?_
                  rintro e w7 ⟨rfl, hb7⟩
                  have z0 := Lib.hid (block_keep hb7 (lt_of_heap a0) a0)
                  have z1 := Lib.hid (block_keep hb7 (lt_of_heap A1.out) A1.out)
                  have z2 := block_keep hb7 (lt_of_heap a2) a2
                  have Z2 := Lib.hid z2
                  have B7 := Lib.hid (below_all B6.out hb7)
                  have n0 := cell_heap (j := 0) z2 rfl
                  have n1 := cell_heap (j := 1) z2 rfl
                  have n2 := cell_heap (j := 2) z2 rfl
                  have m0 := frozen_pa z2 0
                  have m1 := frozen_pa z2 1
                  have m2 := frozen_pa z2 2
                  clear hb7 a0 a2 A1 B6 z2
                  go_wp2_with fail
                  have hn0 : w.heap.size ≤ N := by have := HN.out; omega
                  have hn1 : w.heap.size ≠ N := by have := HN.out; omega
                  have hn2 : w.heap.size + 1 ≠ N := by have := HN.out; omega
                  go_roundg (10 - (k + 1))
                  case measure => have := SP.out; have := HK1.out; omega
                  case rel =>
                    refine ⟨k + 1, by omega, by go_num, ?_, ?_, ?_, ?_⟩
                    · exact put3_below B7.out hn0 _ _ _
                    · exact (heap_setOther (heap_setOther (heap_setOther z0.out hn1 _ _) hn1 _ _) hn1 _ _)
                    · exact (heap_setOther (heap_setOther (heap_setOther z1.out hn2 _ _) hn2 _ _) hn2 _ _)
                    · exact Lib.hid ⟨by have := HK1.out; omega, 4, u2, Or.inr rfl, by rw [HU2.out]; rfl, put3_heap Z2.out _ _ _⟩
                · have hbn : (d != 3) = true := by simp [cd]
                  have hkk := HK.out
                  have t9 := cell_heap (j := 9) a0 rfl
                  clear cd HD3 HM
                  go_wp2_with fail
                  refine (alive22 _).mono ?_
                  rintro e w7 ⟨rfl, hb7⟩
                  go_wp2_with fail
                  go_ret
                  exact ⟨rfl, below_all B6.out hb7⟩
              · have b7 : (y != 7) = true := by simp [c7]
                have HM := Lib.hid (fun W => decide_any g p k u y 0 0 (b 0) (b 1) true W)
                have HD3 := Lib.hid (fun h : decF (g 9) k true (b 0) (b 1) y = 3 => dec_more h)
                generalize decF (g 9) k true (b 0) (b 1) y = d at HM HD3
                go_wp2_with (first | (refine wpList_load_blk 56 _ rfl rfl _ rfl 56 _ _ _ e0 Try.underlying56 rfl (by kernel_rfl) ?_) | (refine wpList_load_blk 75 _ rfl rfl _ rfl 75 _ _ _ e1 Try.underlying75 rfl (by kernel_rfl) ?_) | (refine wpList_load_blk 61 _ rfl rfl _ rfl 61 _ _ _ e2 Try.underlying61 rfl (by kernel_rfl) ?_))
                refine (HM.out _).mono ?_
                rintro e w6 ⟨rfl, hb6⟩
                have a0 := block_keep hb6 (lt_of_heap e0) e0
                have a2 := block_keep hb6 (lt_of_heap e2) e2
                have A1 := Lib.hid (block_keep hb6 (lt_of_heap e1) e1)
                have B6 := Lib.hid (below_all B5.out hb6)
                clear hb6 e0 e1 e2 B5
                by_cases cd : d = 3
                · have hk1 := HD3.out cd
                  subst cd
                  have HK1 := Lib.hid hk1
                  clear HM HD3 hk1
                  obtain ⟨u2, hu2, hu3⟩ : ∃ u2, u2 = x + g 7 + ((k : Int) + 1) * g 8 ∧ wrap64 (u + g 8) = u2 := ⟨_, rfl, HU.out⟩
                  have HX := Lib.hid (fun W => extend_at g p u u2 k ck hu3 W)
                  have HU2 := Lib.hid hu2
                  clear hu2 hu3 HU
                  go_wp2_with (first | (refine wpList_load_blk 56 _ rfl rfl _ rfl 56 _ _ _ a0 Try.underlying56 rfl (by kernel_rfl) ?_) | (refine wpList_load_blk 75 _ rfl rfl _ rfl 75 _ _ _ a1 Try.underlying75 rfl (by kernel_rfl) ?_) | (refine wpList_load_blk 61 _ rfl rfl _ rfl 61 _ _ _ a2 Try.underlying61 rfl (by kernel_rfl) ?_))
                  refine (HX.out _).mono ?_
                  rintro e w7 ⟨rfl, hb7⟩
                  have z0 := Lib.hid (block_keep hb7 (lt_of_heap a0) a0)
                  have z1 := Lib.hid (block_keep hb7 (lt_of_heap A1.out) A1.out)
                  have z2 := block_keep hb7 (lt_of_heap a2) a2
                  have Z2 := Lib.hid z2
                  have B7 := Lib.hid (below_all B6.out hb7)
                  have n0 := cell_heap (j := 0) z2 rfl
                  have n1 := cell_heap (j := 1) z2 rfl
                  have n2 := cell_heap (j := 2) z2 rfl
                  have m0 := frozen_pa z2 0
                  have m1 := frozen_pa z2 1
                  have m2 := frozen_pa z2 2
                  clear hb7 a0 a2 A1 B6 z2
                  go_wp2_with fail
                  have hn0 : w.heap.size ≤ N := by have := HN.out; omega
                  have hn1 : w.heap.size ≠ N := by have := HN.out; omega
                  have hn2 : w.heap.size + 1 ≠ N := by have := HN.out; omega
                  go_roundg (10 - (k + 1))
                  case measure => have := SP.out; have := HK1.out; omega
                  case rel =>
                    refine ⟨k + 1, by omega, by go_num, ?_, ?_, ?_, ?_⟩
                    · exact put3_below B7.out hn0 _ _ _
                    · exact (heap_setOther (heap_setOther (heap_setOther z0.out hn1 _ _) hn1 _ _) hn1 _ _)
                    · exact (heap_setOther (heap_setOther (heap_setOther z1.out hn2 _ _) hn2 _ _) hn2 _ _)
                    · exact Lib.hid ⟨by have := HK1.out; omega, 4, u2, Or.inr rfl, by rw [HU2.out]; rfl, put3_heap Z2.out _ _ _⟩
                · have hbn : (d != 3) = true := by simp [cd]
                  have hkk := HK.out
                  have t9 := cell_heap (j := 9) a0 rfl
                  clear cd HD3 HM
                  go_wp2_with fail
                  refine (alive22 _).mono ?_
                  rintro e w7 ⟨rfl, hb7⟩
                  go_wp2_with fail
                  go_ret
                  exact ⟨rfl, below_all B6.out hb7⟩
            · have ckn' : ¬ (k : Int) < (n : Int) := by omega
              have nk : n ≤ k := by omega
              have dnk : decide (n ≤ k) = true := decide_eq_true nk
              have ckn2 : (n : Int) ≤ (k : Int) := by omega
              have HM := Lib.hid (fun W => decide_any g p k u 0 0 0 (b 0) (b 1) true W)
              have HD3 := Lib.hid (fun h : decF (g 9) k true (b 0) (b 1) 0 = 3 => dec_more h)
              generalize decF (g 9) k true (b 0) (b 1) 0 = d at HM HD3
              go_wp2_with (first | (refine wpList_load_blk 56 _ rfl rfl _ rfl 56 _ _ _ e0 Try.underlying56 rfl (by kernel_rfl) ?_) | (refine wpList_load_blk 75 _ rfl rfl _ rfl 75 _ _ _ e1 Try.underlying75 rfl (by kernel_rfl) ?_) | (refine wpList_load_blk 61 _ rfl rfl _ rfl 61 _ _ _ e2 Try.underlying61 rfl (by kernel_rfl) ?_))
              refine (HM.out _).mono ?_
              rintro e w6 ⟨rfl, hb6⟩
              have a0 := block_keep hb6 (lt_of_heap e0) e0
              have a2 := block_keep hb6 (lt_of_heap e2) e2
              have A1 := Lib.hid (block_keep hb6 (lt_of_heap e1) e1)
              have B6 := Lib.hid (below_all B5.out hb6)
              clear hb6 e0 e1 e2 B5
              by_cases cd : d = 3
              · have hk1 := HD3.out cd
                subst cd
                have HK1 := Lib.hid hk1
                clear HM HD3 hk1
                obtain ⟨u2, hu2, hu3⟩ : ∃ u2, u2 = x + g 7 + ((k : Int) + 1) * g 8 ∧ wrap64 (u + g 8) = u2 := ⟨_, rfl, HU.out⟩
                have HX := Lib.hid (fun W => extend_at g p u u2 k ck hu3 W)
                have HU2 := Lib.hid hu2
                clear hu2 hu3 HU
                go_wp2_with (first | (refine wpList_load_blk 56 _ rfl rfl _ rfl 56 _ _ _ a0 Try.underlying56 rfl (by kernel_rfl) ?_) | (refine wpList_load_blk 75 _ rfl rfl _ rfl 75 _ _ _ a1 Try.underlying75 rfl (by kernel_rfl) ?_) | (refine wpList_load_blk 61 _ rfl rfl _ rfl 61 _ _ _ a2 Try.underlying61 rfl (by kernel_rfl) ?_))
                refine (HX.out _).mono ?_
                rintro e w7 ⟨rfl, hb7⟩
                have z0 := Lib.hid (block_keep hb7 (lt_of_heap a0) a0)
                have z1 := Lib.hid (block_keep hb7 (lt_of_heap A1.out) A1.out)
                have z2 := block_keep hb7 (lt_of_heap a2) a2
                have Z2 := Lib.hid z2
                have B7 := Lib.hid (below_all B6.out hb7)
                have n0 := cell_heap (j := 0) z2 rfl
                have n1 := cell_heap (j := 1) z2 rfl
                have n2 := cell_heap (j := 2) z2 rfl
                have m0 := frozen_pa z2 0
                have m1 := frozen_pa z2 1
                have m2 := frozen_pa z2 2
                clear hb7 a0 a2 A1 B6 z2
                go_wp2_with fail
                have hn0 : w.heap.size ≤ N := by have := HN.out; omega
                have hn1 : w.heap.size ≠ N := by have := HN.out; omega
                have hn2 : w.heap.size + 1 ≠ N := by have := HN.out; omega
                go_roundg (10 - (k + 1))
                case measure => have := SP.out; have := HK1.out; omega
                case rel =>
                  refine ⟨k + 1, by omega, by go_num, ?_, ?_, ?_, ?_⟩
                  · exact put3_below B7.out hn0 _ _ _
                  · exact (heap_setOther (heap_setOther (heap_setOther z0.out hn1 _ _) hn1 _ _) hn1 _ _)
                  · exact (heap_setOther (heap_setOther (heap_setOther z1.out hn2 _ _) hn2 _ _) hn2 _ _)
                  · exact Lib.hid ⟨by have := HK1.out; omega, 4, u2, Or.inr rfl, by rw [HU2.out]; rfl, put3_heap Z2.out _ _ _⟩
              · have hbn : (d != 3) = true := by simp [cd]
                have hkk := HK.out
                have t9 := cell_heap (j := 9) a0 rfl
                clear cd HD3 HM
                go_wp2_with fail
                refine (alive22 _).mono ?_
                rintro e w7 ⟨rfl, hb7⟩
                go_wp2_with fail
                go_ret
                exact ⟨rfl, below_all B6.out hb7⟩
  · have hb0 : (symF g != 0) = true := by simp [hz]
    clear hz
    generalize symF g = fk at HC hb0
    go_enter Try.func12, Try.ntmps12
    go_wp2_with fail
    refine (HC.out).mono ?_
    rintro e w1 ⟨rfl, hb1⟩
    go_wp2_with fail
    refine (alive22 _).mono ?_
    rintro e w2 ⟨rfl, hb2⟩
    go_wp2_with fail
    go_ret
    exact ⟨rfl, below_all (below_all (below_al (below_al (Below.refl _ _) _) _) hb1) hb2⟩


end Go.Proofs.Ythhkcckikmldcaa
