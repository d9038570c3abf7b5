/-
  The walk of BreakerOnce. (Written by gen_wbo.py, a program of this session's own.)
-/
import Derived.Test.YthhkcckikmldcaaWBreakerPlays
set_option linter.unusedVariables false
set_option linter.unusedSimpArgs false
namespace Go.Proofs.Ythhkcckikmldcaa
open Go.RowKit

theorem eq85 (a0 a1 : Bool) : ∀ W : World, (Op.equalIn 9999 85 (.agg #[.bool a0, .bool a1]) (.agg #[.bool a0, .bool a1])).run Try.prog W = .ok true W := fun _ => by cases a0 <;> cases a1 <;> kernel_rfl

set_option maxRecDepth 100000 in
set_option maxHeartbeats 16000000 in
theorem walkBreakerOnce (w : World) (A : Option Addr) (n c : Nat) (B : Option Addr) (m d : Nat) (S R : Nat → Nat → Int) (x : Nat → Int) (h : CfgIn w A n c B m d S R x)
    (A1 : Option Addr) (n1 c1 : Nat) (hnc1 : n1 ≤ c1) (hmx1 : c1 ≤ 9223372036854775807) (G1 : Nat → Nat → Int) (HT1 : Tab w A1 n1 1 G1) (HG1 : ∀ i, i < n1 → ∀ j, j < 1 → i64Ok (G1 i j))
    (A2 : Option Addr) (n2 c2 : Nat) (hnc2 : n2 ≤ c2) (hmx2 : c2 ≤ 9223372036854775807) (G2 : Nat → Nat → Int) (HT2 : Tab w A2 n2 1 G2) (HG2 : ∀ i, i < n2 → ∀ j, j < 1 → i64Ok (G2 i j)) :
    Calls Try.prog 14 #[.agg #[.slice A n c, .slice B m d, .int .i64 (x 0), .int .i64 (x 1), .int .i64 (x 2), .int .i64 (x 3), .int .i64 (x 4), .int .i64 (x 5)], .slice A1 n1 c1, .slice A2 n2 c2] w fun e w' => e = .returned (.bool true) ∧ Below w.heap.size w w' := by
  have BX := below_al (Below.refl w.heap.size w) (.cells #[.slice A n c, .slice B m d, .int .i64 (x 0), .int .i64 (x 1), .int .i64 (x 2), .int .i64 (x 3), .int .i64 (x 4), .int .i64 (x 5)] 35)
  have HR := Lib.hid (right0_any A n c B m d S R x (w.alloc (.cells #[.slice A n c, .slice B m d, .int .i64 (x 0), .int .i64 (x 1), .int .i64 (x 2), .int .i64 (x 3), .int .i64 (x 4), .int .i64 (x 5)] 35)) (h.below BX))
  have K0 := Lib.hid (heap_new w (.cells #[.slice A n c, .slice B m d, .int .i64 (x 0), .int .i64 (x 1), .int .i64 (x 2), .int .i64 (x 3), .int .i64 (x 4), .int .i64 (x 5)] 35))
  have HB := Lib.hid BX
  have ht : rightB n m (chkF n S m R x) = true → TailOk x := fun hr => by
    unfold rightB at hr
    simp only [Bool.and_eq_true, beq_iff_eq] at hr
    exact chk_tail_ok hr.2
  have T1 := Lib.hid HT1
  have T2 := Lib.hid HT2
  have I2 := Lib.hid HG2
  clear h BX HT1 HT2 HG1 HG2
  generalize rightB n m (chkF n S m R x) = r at HR ht
  cases r
  · clear ht
    go_enter Try.func14, Try.ntmps14
    go_wp2_with fail
    refine (HR.out).mono ?_
    rintro e w1 ⟨rfl, hb1⟩
    go_wp2_with fail
    refine (alive23 _).mono ?_
    rintro e w2 ⟨rfl, hb2⟩
    go_wp2_with fail
    go_ret
    exact ⟨rfl, below_all (below_all (below_al (Below.refl _ _) _) hb1) hb2⟩
  · have HTl := Lib.hid (ht rfl)
    clear ht
    by_cases k60 : 60 < n1
    · have k60' : (60 : Int) < (n1 : Int) := by omega
      go_enter Try.func14, Try.ntmps14
      go_wp2_with fail
      refine (HR.out).mono ?_
      rintro e w1 ⟨rfl, hb1⟩
      go_wp2_with fail
      refine (alive23 _).mono ?_
      rintro e w2 ⟨rfl, hb2⟩
      go_wp2_with fail
      go_ret
      exact ⟨rfl, below_all (below_all (below_al (Below.refl _ _) _) hb1) hb2⟩
    · have k60' : ¬ (60 : Int) < (n1 : Int) := by omega
      have HJ := Lib.hid (fun u0 u1 t sh tick at_ hat => both_index A n c B m d x HTl.out u0 u1 t sh tick at_ hat)
      go_enter Try.func14, Try.ntmps14
      go_wp2_with fail
      refine (HR.out).mono ?_
      rintro e w1 ⟨rfl, hb1⟩
      have g0 := block_keep hb1 (lt_of_heap K0.out) K0.out
      have B1 := below_all HB.out hb1
      have z0 := Lib.hid (alloc_old (.cells #[.bool false, .bool false, .bool false, .bool false] 95) (alloc_old (.cells #[.bool false, .bool false, .int .i64 0, .bool false] 87) g0))
      have z1 := Lib.hid (alloc_old (.cells #[.bool false, .bool false, .bool false, .bool false] 95) (heap_new w1 (.cells #[.bool false, .bool false, .int .i64 0, .bool false] 87)))
      have z2 := Lib.hid (heap_new2 w1 (.cells #[.bool false, .bool false, .int .i64 0, .bool false] 87) (.cells #[.bool false, .bool false, .bool false, .bool false] 95))
      have B2 := Lib.hid (below_al (below_al B1 (.cells #[.bool false, .bool false, .int .i64 0, .bool false] 87)) (.cells #[.bool false, .bool false, .bool false, .bool false] 95))
      have HN := Lib.hid (lt_of_heap g0)
      clear hb1 K0 g0 B1 HR HB
      go_wp2_with fail
      generalize (w1.alloc (.cells #[.bool false, .bool false, .int .i64 0, .bool false] 87)).alloc (.cells #[.bool false, .bool false, .bool false, .bool false] 95) = W3 at z0 z1 z2 B2 ⊢
      generalize w1.heap.size = N at z1 z2 HN ⊢
      go_loopg [9, 10] 60 (fun gg s9 s10 wr => ∃ (k : Nat) (tick : Int) (u0 u1 sh s1 s2 s3 : Bool) (t : Int), 60 - k ≤ gg ∧ s10 = .int .i64 k ∧ s9 = .int .i64 tick ∧ Hid (k ≤ n1 ∧ 0 ≤ tick ∧ tick ≤ k * 1125899906842624) ∧ Hid ((s1 = true → u0 = true) ∧ (s2 = true → u1 = true) ∧ (s3 = true → sh = true)) ∧ Hid (Below w.heap.size w wr) ∧ Hid (wr.heap[w.heap.size]? = some (.cells #[.slice A n c, .slice B m d, .int .i64 (x 0), .int .i64 (x 1), .int .i64 (x 2), .int .i64 (x 3), .int .i64 (x 4), .int .i64 (x 5)] 35 (0, 0))) ∧ Hid (wr.heap[N]? = some (.cells #[.bool u0, .bool u1, .int .i64 t, .bool sh] 87 (0, 0))) ∧ Hid (wr.heap[N + 1]? = some (.cells #[.bool false, .bool s1, .bool s2, .bool s3] 95 (0, 0))))
      case atStart => exact ⟨0, 0, false, false, false, false, false, false, 0, by omega, rfl, rfl, Lib.hid ⟨Nat.zero_le _, by omega, by omega⟩, Lib.hid ⟨id, id, id⟩, B2, z0, z1, z2⟩
      case round =>
        obtain ⟨k, tick, u0, u1, sh, s1, s2, s3, t, hg, rfl, rfl, HK, HS, BW, L0, L1, L2⟩ := hrel
        by_cases k1 : k < n1
        · have k1' : (k : Int) < (n1 : Int) := by omega
          by_cases k2 : k < n2
          · have k2' : (k : Int) < (n2 : Int) := by omega
            obtain ⟨b1, off1, rfl, hc1⟩ := T1.out (by omega)
            obtain ⟨b2, off2, rfl, hc2⟩ := T2.out (by omega)
            have v1 := bcell BW.out (hc1 k k1 0 (by omega))
            have V2 := Lib.hid (bcell BW.out (hc2 k k2 0 (by omega)))
            have hat := I2.out k k2 0 (by omega)
            rw [Nat.mul_one, Nat.add_zero] at v1 V2
            generalize G1 k 0 = dt at v1
            generalize G2 k 0 = at_ at V2 hat
            clear hc1 hc2
            by_cases d1 : dt < 0
            · clear hat
              go_wp2_with fail
              refine (alive23 _).mono ?_
              rintro e w2 ⟨rfl, hb2⟩
              go_wp2_with fail
              go_ret
              exact ⟨rfl, below_all BW.out hb2⟩
            · by_cases d2 : 1125899906842624 < dt
              · clear hat
                go_wp2_with fail
                refine (alive23 _).mono ?_
                rintro e w2 ⟨rfl, hb2⟩
                go_wp2_with fail
                go_ret
                exact ⟨rfl, below_all BW.out hb2⟩
              · have ht1 : 0 ≤ tick := HK.out.2.1
                have ht2 : tick ≤ 67553994410557440 := by have := HK.out.2.2; have := HK.out.1; omega
                obtain ⟨a0, a1, a2, a3, rn, C60, _, hstep⟩ := HJ.out u0 u1 t sh (tick + dt) at_ hat
                have HT2' := Lib.hid (show 0 ≤ tick + dt ∧ tick + dt ≤ ((k + 1 : Nat) : Int) * 1125899906842624 by have := HK.out.2.2; omega)
                have H60 := Lib.hid C60
                have HST := Lib.hid hstep
                have HHa := Lib.hid (fun W => halted_any u0 u1 sh t (tick + dt) W)
                have j0 := L1.out
                have c0 := cell_heap (j := 0) j0 rfl
                have c1 := cell_heap (j := 1) j0 rfl
                have c2 := cell_heap (j := 2) j0 rfl
                have c3 := cell_heap (j := 3) j0 rfl
                clear C60 hat hstep j0
                go_wp2_with fail
                refine (HHa.out _).mono ?_
                rintro e w5 ⟨rfl, hb5⟩
                have P0 := Lib.hid (below_all BW.out hb5)
                have P1 := Lib.hid (block_keep hb5 (lt_of_heap L0.out) L0.out)
                have P2 := Lib.hid (block_keep hb5 (lt_of_heap L1.out) L1.out)
                have P3 := Lib.hid (block_keep hb5 (lt_of_heap L2.out) L2.out)
                have P4 := Lib.hid (bcell hb5 V2.out)
                clear v1 d1 d2 ht1 ht2 c0 c1 c2 c3 hb5 BW L0 L1 L2 V2 HHa
                go_upto_region 13 with fail
                go_cut [12, 13] from 24 to 138 (fun s12 s13 wx => ∃ M : Nat, s12 = .pointer (some ⟨M, 0, none⟩) ∧ s13 = .int .i64 rn ∧ Hid (N + 1 < M) ∧ Hid (Below w.heap.size w wx) ∧ Hid (wx.heap[w.heap.size]? = some (.cells #[.slice A n c, .slice B m d, .int .i64 (x 0), .int .i64 (x 1), .int .i64 (x 2), .int .i64 (x 3), .int .i64 (x 4), .int .i64 (x 5)] 35 (0, 0))) ∧ Hid (wx.heap[N]? = some (.cells #[.bool u0, .bool u1, .int .i64 t, .bool sh] 87 (0, 0))) ∧ Hid (wx.heap[N + 1]? = some (.cells #[.bool false, .bool s1, .bool s2, .bool s3] 95 (0, 0))) ∧ Hid (wx.cell? ⟨b2, off2 + k, none⟩ = some (.int .i64 at_)) ∧ Hid (wx.heap[M]? = some (.cells #[.bool a0, .bool a1, .int .i64 a2, .bool a3] 87 (0, 0))))
                case first =>
                  have ra0 : ∀ W : World, W.heap[w.heap.size]? = some (.cells #[.slice A n c, .slice B m d, .int .i64 (x 0), .int .i64 (x 1), .int .i64 (x 2), .int .i64 (x 3), .int .i64 (x 4), .int .i64 (x 5)] 35 (0, 0)) → W.cell? ⟨w.heap.size, 0, none⟩ = some (.slice A n c) := fun W h => cell_heap h rfl
                  have ra1 : ∀ W : World, W.heap[w.heap.size]? = some (.cells #[.slice A n c, .slice B m d, .int .i64 (x 0), .int .i64 (x 1), .int .i64 (x 2), .int .i64 (x 3), .int .i64 (x 4), .int .i64 (x 5)] 35 (0, 0)) → W.cell? ⟨w.heap.size, 1, none⟩ = some (.slice B m d) := fun W h => cell_heap h rfl
                  have ra2 : ∀ W : World, W.heap[w.heap.size]? = some (.cells #[.slice A n c, .slice B m d, .int .i64 (x 0), .int .i64 (x 1), .int .i64 (x 2), .int .i64 (x 3), .int .i64 (x 4), .int .i64 (x 5)] 35 (0, 0)) → W.cell? ⟨w.heap.size, 2, none⟩ = some (.int .i64 (x 0)) := fun W h => cell_heap h rfl
                  have ra3 : ∀ W : World, W.heap[w.heap.size]? = some (.cells #[.slice A n c, .slice B m d, .int .i64 (x 0), .int .i64 (x 1), .int .i64 (x 2), .int .i64 (x 3), .int .i64 (x 4), .int .i64 (x 5)] 35 (0, 0)) → W.cell? ⟨w.heap.size, 3, none⟩ = some (.int .i64 (x 1)) := fun W h => cell_heap h rfl
                  have ra4 : ∀ W : World, W.heap[w.heap.size]? = some (.cells #[.slice A n c, .slice B m d, .int .i64 (x 0), .int .i64 (x 1), .int .i64 (x 2), .int .i64 (x 3), .int .i64 (x 4), .int .i64 (x 5)] 35 (0, 0)) → W.cell? ⟨w.heap.size, 4, none⟩ = some (.int .i64 (x 2)) := fun W h => cell_heap h rfl
                  have ra5 : ∀ W : World, W.heap[w.heap.size]? = some (.cells #[.slice A n c, .slice B m d, .int .i64 (x 0), .int .i64 (x 1), .int .i64 (x 2), .int .i64 (x 3), .int .i64 (x 4), .int .i64 (x 5)] 35 (0, 0)) → W.cell? ⟨w.heap.size, 5, none⟩ = some (.int .i64 (x 3)) := fun W h => cell_heap h rfl
                  have ra6 : ∀ W : World, W.heap[w.heap.size]? = some (.cells #[.slice A n c, .slice B m d, .int .i64 (x 0), .int .i64 (x 1), .int .i64 (x 2), .int .i64 (x 3), .int .i64 (x 4), .int .i64 (x 5)] 35 (0, 0)) → W.cell? ⟨w.heap.size, 6, none⟩ = some (.int .i64 (x 4)) := fun W h => cell_heap h rfl
                  have ra7 : ∀ W : World, W.heap[w.heap.size]? = some (.cells #[.slice A n c, .slice B m d, .int .i64 (x 0), .int .i64 (x 1), .int .i64 (x 2), .int .i64 (x 3), .int .i64 (x 4), .int .i64 (x 5)] 35 (0, 0)) → W.cell? ⟨w.heap.size, 7, none⟩ = some (.int .i64 (x 5)) := fun W h => cell_heap h rfl
                  have rb0 : ∀ W : World, W.heap[N]? = some (.cells #[.bool u0, .bool u1, .int .i64 t, .bool sh] 87 (0, 0)) → W.cell? ⟨N, 0, none⟩ = some (.bool u0) := fun W h => cell_heap h rfl
                  have rb1 : ∀ W : World, W.heap[N]? = some (.cells #[.bool u0, .bool u1, .int .i64 t, .bool sh] 87 (0, 0)) → W.cell? ⟨N, 1, none⟩ = some (.bool u1) := fun W h => cell_heap h rfl
                  have rb2 : ∀ W : World, W.heap[N]? = some (.cells #[.bool u0, .bool u1, .int .i64 t, .bool sh] 87 (0, 0)) → W.cell? ⟨N, 2, none⟩ = some (.int .i64 t) := fun W h => cell_heap h rfl
                  have rb3 : ∀ W : World, W.heap[N]? = some (.cells #[.bool u0, .bool u1, .int .i64 t, .bool sh] 87 (0, 0)) → W.cell? ⟨N, 3, none⟩ = some (.bool sh) := fun W h => cell_heap h rfl
                  have q0 := P0.out
                  have q1 := P1.out
                  have q2 := P2.out
                  have q3 := P3.out
                  have q4 := P4.out
                  have hM0 := lt_of_heap P1.out
                  have hM1 := lt_of_heap P2.out
                  have hM2 := lt_of_heap P3.out
                  have hM3 := World.block_lt_of_cell? w5 _ P4.out
                  have hzz := drew_heap (heap_new w5 (.cells #[.bool false, .bool false, .int .i64 0, .bool false] 87))
                  go_region_held3 (fun w' => Below w.heap.size w w' ∧ w'.heap[w.heap.size]? = some (.cells #[.slice A n c, .slice B m d, .int .i64 (x 0), .int .i64 (x 1), .int .i64 (x 2), .int .i64 (x 3), .int .i64 (x 4), .int .i64 (x 5)] 35 (0, 0)) ∧ w'.heap[N]? = some (.cells #[.bool u0, .bool u1, .int .i64 t, .bool sh] 87 (0, 0)) ∧ w'.heap[N + 1]? = some (.cells #[.bool false, .bool s1, .bool s2, .bool s3] 95 (0, 0)) ∧ w'.cell? ⟨b2, off2 + k, none⟩ = some (.int .i64 at_))
                    (first | (go_split_ands; refine ⟨?_, ?_, ?_, ?_, ?_⟩ <;> (first | (with_reducible assumption) | (with_reducible exact put4_below Q0.out (Nat.le_of_lt hM0) _ _ _ _) | (with_reducible exact put4_other Q1.out (Nat.ne_of_lt hM0) _ _ _ _) | (with_reducible exact put4_other Q2.out (Nat.ne_of_lt hM1) _ _ _ _) | (with_reducible exact put4_other Q3.out (Nat.ne_of_lt hM2) _ _ _ _) | (with_reducible exact put4_cell Q4.out (Nat.ne_of_lt hM3) _ _ _ _) | (with_reducible exact below_al Q0.out _) | (with_reducible exact alloc_old _ Q1.out) | (with_reducible exact alloc_old _ Q2.out) | (with_reducible exact alloc_old _ Q3.out) | (with_reducible exact cell_al Q4.out _) | (with_reducible exact Q0.out) | (with_reducible exact Q1.out) | (with_reducible exact Q2.out) | (with_reducible exact Q3.out) | (with_reducible exact Q4.out) | (with_reducible exact below_al (by assumption) _) | (with_reducible exact alloc_old _ (by assumption)) | (with_reducible exact cell_al (by assumption) _) | (with_reducible exact drew_below q0) | (with_reducible exact drew_heap q1) | (with_reducible exact drew_heap q2) | (with_reducible exact drew_heap q3) | (with_reducible exact drew_cell q4) | (with_reducible exact drew_below (below_al q0 _)) | (with_reducible exact drew_heap (alloc_old _ q1)) | (with_reducible exact drew_heap (alloc_old _ q2)) | (with_reducible exact drew_heap (alloc_old _ q3)) | (with_reducible exact drew_cell (cell_al q4 _)))))
                    (first | (go_at_call 60; go_split_ands; refine (H60.out _).mono ?_; rintro e w4 ⟨rfl, hqn⟩; have Q0 : Hid (Below w.heap.size w w4) := Lib.hid (below_all (by assumption) hqn); have Q1 : Hid (w4.heap[w.heap.size]? = some (.cells #[.slice A n c, .slice B m d, .int .i64 (x 0), .int .i64 (x 1), .int .i64 (x 2), .int .i64 (x 3), .int .i64 (x 4), .int .i64 (x 5)] 35 (0, 0))) := Lib.hid (block_keep hqn (lt_of_heap (by assumption)) (by assumption)); have Q2 : Hid (w4.heap[N]? = some (.cells #[.bool u0, .bool u1, .int .i64 t, .bool sh] 87 (0, 0))) := Lib.hid (block_keep hqn (lt_of_heap (by assumption)) (by assumption)); have Q3 : Hid (w4.heap[N + 1]? = some (.cells #[.bool false, .bool s1, .bool s2, .bool s3] 95 (0, 0))) := Lib.hid (block_keep hqn (lt_of_heap (by assumption)) (by assumption)); have Q4 : Hid (w4.cell? ⟨b2, off2 + k, none⟩ = some (.int .i64 at_)) := Lib.hid (bcell hqn (by assumption)); (try (have zz := (by with_reducible exact block_keep hqn (lt_of_heap hzz) hzz : w4.heap[w5.heap.size]? = some (.cells #[.bool false, .bool false, .int .i64 0, .bool false] 87 (0, 0))); have Z4 := Lib.hid zz; have y0 := cell_heap (j := 0) zz rfl; have y1 := cell_heap (j := 1) zz rfl; have y2 := cell_heap (j := 2) zz rfl; have y3 := cell_heap (j := 3) zz rfl; have f0 := frozen_pa zz 0; have f1 := frozen_pa zz 1; have f2 := frozen_pa zz 2; have f3 := frozen_pa zz 3))))
                  all_goals go_wp2_with fail
                  all_goals go_meet
                  all_goals first
                    | exact ⟨_, rfl, rfl, Lib.hid (lt_of_heap Q3.out), Lib.hid (below_al Q0.out _), Lib.hid (alloc_old _ Q1.out), Lib.hid (alloc_old _ Q2.out), Lib.hid (alloc_old _ Q3.out), Lib.hid (cell_al Q4.out _), Lib.hid (heap_new _ _)⟩
                    | exact ⟨_, rfl, rfl, Lib.hid hM2, Lib.hid (put4_below Q0.out (Nat.le_of_lt hM0) _ _ _ _), Lib.hid (put4_other Q1.out (Nat.ne_of_lt hM0) _ _ _ _), Lib.hid (put4_other Q2.out (Nat.ne_of_lt hM1) _ _ _ _), Lib.hid (put4_other Q3.out (Nat.ne_of_lt hM2) _ _ _ _), Lib.hid (put4_cell Q4.out (Nat.ne_of_lt hM3) _ _ _ _), Lib.hid (put4_heap Z4.out _ _ _ _)⟩
                case rest =>
                  obtain ⟨M, rfl, rfl, HM, BX, X0, X1, X2, _, X3⟩ := hcut
                  clear P0 P1 P2 P3 P4 H60
                  clear HJ
                  go_wp2_with fail
                  have hst := HST.out
                  clear HST
                  rcases hst with ⟨rfl, rfl, rfl, rfl, rfl⟩ | ⟨rfl, rfl, hn, rfl, rfl, rfl, h2, rfl⟩ | ⟨rfl, rfl, hn, rfl, rfl, rfl, h2, rfl⟩ | ⟨rfl, rfl, rfl, rfl, rfl, rfl⟩
                  · cases a3
                    · as_aux_lemma =>
                      have heq85 := eq85 a0 a1
                      have ra0 : ∀ W : World, W.heap[w.heap.size]? = some (.cells #[.slice A n c, .slice B m d, .int .i64 (x 0), .int .i64 (x 1), .int .i64 (x 2), .int .i64 (x 3), .int .i64 (x 4), .int .i64 (x 5)] 35 (0, 0)) → W.cell? ⟨w.heap.size, 0, none⟩ = some (.slice A n c) := fun W h => cell_heap h rfl
                      have ra1 : ∀ W : World, W.heap[w.heap.size]? = some (.cells #[.slice A n c, .slice B m d, .int .i64 (x 0), .int .i64 (x 1), .int .i64 (x 2), .int .i64 (x 3), .int .i64 (x 4), .int .i64 (x 5)] 35 (0, 0)) → W.cell? ⟨w.heap.size, 1, none⟩ = some (.slice B m d) := fun W h => cell_heap h rfl
                      have ra2 : ∀ W : World, W.heap[w.heap.size]? = some (.cells #[.slice A n c, .slice B m d, .int .i64 (x 0), .int .i64 (x 1), .int .i64 (x 2), .int .i64 (x 3), .int .i64 (x 4), .int .i64 (x 5)] 35 (0, 0)) → W.cell? ⟨w.heap.size, 2, none⟩ = some (.int .i64 (x 0)) := fun W h => cell_heap h rfl
                      have ra3 : ∀ W : World, W.heap[w.heap.size]? = some (.cells #[.slice A n c, .slice B m d, .int .i64 (x 0), .int .i64 (x 1), .int .i64 (x 2), .int .i64 (x 3), .int .i64 (x 4), .int .i64 (x 5)] 35 (0, 0)) → W.cell? ⟨w.heap.size, 3, none⟩ = some (.int .i64 (x 1)) := fun W h => cell_heap h rfl
                      have ra4 : ∀ W : World, W.heap[w.heap.size]? = some (.cells #[.slice A n c, .slice B m d, .int .i64 (x 0), .int .i64 (x 1), .int .i64 (x 2), .int .i64 (x 3), .int .i64 (x 4), .int .i64 (x 5)] 35 (0, 0)) → W.cell? ⟨w.heap.size, 4, none⟩ = some (.int .i64 (x 2)) := fun W h => cell_heap h rfl
                      have ra5 : ∀ W : World, W.heap[w.heap.size]? = some (.cells #[.slice A n c, .slice B m d, .int .i64 (x 0), .int .i64 (x 1), .int .i64 (x 2), .int .i64 (x 3), .int .i64 (x 4), .int .i64 (x 5)] 35 (0, 0)) → W.cell? ⟨w.heap.size, 5, none⟩ = some (.int .i64 (x 3)) := fun W h => cell_heap h rfl
                      have ra6 : ∀ W : World, W.heap[w.heap.size]? = some (.cells #[.slice A n c, .slice B m d, .int .i64 (x 0), .int .i64 (x 1), .int .i64 (x 2), .int .i64 (x 3), .int .i64 (x 4), .int .i64 (x 5)] 35 (0, 0)) → W.cell? ⟨w.heap.size, 6, none⟩ = some (.int .i64 (x 4)) := fun W h => cell_heap h rfl
                      have ra7 : ∀ W : World, W.heap[w.heap.size]? = some (.cells #[.slice A n c, .slice B m d, .int .i64 (x 0), .int .i64 (x 1), .int .i64 (x 2), .int .i64 (x 3), .int .i64 (x 4), .int .i64 (x 5)] 35 (0, 0)) → W.cell? ⟨w.heap.size, 7, none⟩ = some (.int .i64 (x 5)) := fun W h => cell_heap h rfl
                      have rn0 : ∀ W : World, W.heap[N]? = some (.cells #[.bool a0, .bool a1, .int .i64 a2, .bool false] 87 (0, 0)) → W.cell? ⟨N, 0, none⟩ = some (.bool a0) := fun W h => cell_heap h rfl
                      have rn1 : ∀ W : World, W.heap[N]? = some (.cells #[.bool a0, .bool a1, .int .i64 a2, .bool false] 87 (0, 0)) → W.cell? ⟨N, 1, none⟩ = some (.bool a1) := fun W h => cell_heap h rfl
                      have rn2 : ∀ W : World, W.heap[N]? = some (.cells #[.bool a0, .bool a1, .int .i64 a2, .bool false] 87 (0, 0)) → W.cell? ⟨N, 2, none⟩ = some (.int .i64 a2) := fun W h => cell_heap h rfl
                      have rn3 : ∀ W : World, W.heap[N]? = some (.cells #[.bool a0, .bool a1, .int .i64 a2, .bool false] 87 (0, 0)) → W.cell? ⟨N, 3, none⟩ = some (.bool false) := fun W h => cell_heap h rfl
                      have rm0 : ∀ W : World, W.heap[M]? = some (.cells #[.bool a0, .bool a1, .int .i64 a2, .bool false] 87 (0, 0)) → W.cell? ⟨M, 0, none⟩ = some (.bool a0) := fun W h => cell_heap h rfl
                      have rm1 : ∀ W : World, W.heap[M]? = some (.cells #[.bool a0, .bool a1, .int .i64 a2, .bool false] 87 (0, 0)) → W.cell? ⟨M, 1, none⟩ = some (.bool a1) := fun W h => cell_heap h rfl
                      have rm2 : ∀ W : World, W.heap[M]? = some (.cells #[.bool a0, .bool a1, .int .i64 a2, .bool false] 87 (0, 0)) → W.cell? ⟨M, 2, none⟩ = some (.int .i64 a2) := fun W h => cell_heap h rfl
                      have rm3 : ∀ W : World, W.heap[M]? = some (.cells #[.bool a0, .bool a1, .int .i64 a2, .bool false] 87 (0, 0)) → W.cell? ⟨M, 3, none⟩ = some (.bool false) := fun W h => cell_heap h rfl
                      have rs0 : ∀ W : World, W.heap[N + 1]? = some (.cells #[.bool false, .bool s1, .bool s2, .bool s3] 95 (0, 0)) → W.cell? ⟨N + 1, 0, none⟩ = some (.bool false) := fun W h => cell_heap h rfl
                      have rs1 : ∀ W : World, W.heap[N + 1]? = some (.cells #[.bool false, .bool s1, .bool s2, .bool s3] 95 (0, 0)) → W.cell? ⟨N + 1, 1, none⟩ = some (.bool s1) := fun W h => cell_heap h rfl
                      have rs2 : ∀ W : World, W.heap[N + 1]? = some (.cells #[.bool false, .bool s1, .bool s2, .bool s3] 95 (0, 0)) → W.cell? ⟨N + 1, 2, none⟩ = some (.bool s2) := fun W h => cell_heap h rfl
                      have rs3 : ∀ W : World, W.heap[N + 1]? = some (.cells #[.bool false, .bool s1, .bool s2, .bool s3] 95 (0, 0)) → W.cell? ⟨N + 1, 3, none⟩ = some (.bool s3) := fun W h => cell_heap h rfl
                      refine wp_region_held_drew (S := (fun w' => Below w.heap.size w w' ∧ w'.heap[w.heap.size]? = some (.cells #[.slice A n c, .slice B m d, .int .i64 (x 0), .int .i64 (x 1), .int .i64 (x 2), .int .i64 (x 3), .int .i64 (x 4), .int .i64 (x 5)] 35 (0, 0)) ∧ w'.heap[N]? = some (.cells #[.bool a0, .bool a1, .int .i64 a2, .bool false] 87 (0, 0)) ∧ w'.heap[N + 1]? = some (.cells #[.bool false, .bool s1, .bool s2, .bool s3] 95 (0, 0)) ∧ w'.heap[M]? = some (.cells #[.bool a0, .bool a1, .int .i64 a2, .bool false] 87 (0, 0)))) (by kernel_rfl) ?hSz00 (fun hHeld => ?rz00)
                      case hSz00 => exact ⟨drew_below BX.out, drew_heap X0.out, drew_heap X1.out, drew_heap X2.out, drew_heap X3.out⟩
                      show wpAnyH Try.prog .any _ _ _ 65 #[false, false, false, false, false, false, false, false, false, false, false, false, false, false, false, false, false, false, false, false, false, false, false, false, false, false, false, false, false, false, false, false, false, false, false, false, false, false, false, false, false, false, false, false, false, false, false, false, false, false, false, false, false, false, false, false, false, false, false, false, false, false, false, false, false] _ _
                      refine wpAnyH_take (i := 0) (oi := ?oi0z00) (v := ?v0z00) ?hi0z00 (by as_aux_lemma => kernel_rfl) (by as_aux_lemma => kernel_rfl) (by as_aux_lemma => kernel_rfl) ?hQ0z00 (Or.inl ⟨?hw0z00, ?hy0z00⟩) (by assumption) ?r0z00
                      case hi0z00 => (simp only [List.getElem?_toArray, List.getElem?_cons_succ, List.getElem?_cons_zero]; rfl)
                      case hQ0z00 => exact fun _ _ _ h => h
                      case hw0z00 => rfl
                      case hy0z00 => (intro w hSw; (try dsimp only at hSw); go_simp; (try with_reducible rfl))
                      (try simp only [Act.put, List.setIfInBounds_toArray, List.set_cons_zero, List.set_cons_succ])
                      refine wpAnyH_take (i := 1) (oi := ?oi1z00) (v := ?v1z00) ?hi1z00 (by as_aux_lemma => kernel_rfl) (by as_aux_lemma => kernel_rfl) (by as_aux_lemma => kernel_rfl) ?hQ1z00 (Or.inl ⟨?hw1z00, ?hy1z00⟩) (by assumption) ?r1z00
                      case hi1z00 => (simp only [List.getElem?_toArray, List.getElem?_cons_succ, List.getElem?_cons_zero]; rfl)
                      case hQ1z00 => exact fun _ _ _ h => h
                      case hw1z00 => rfl
                      case hy1z00 => (intro w hSw; (try dsimp only at hSw); go_simp; (try with_reducible rfl))
                      (try simp only [Act.put, List.setIfInBounds_toArray, List.set_cons_zero, List.set_cons_succ])
                      refine wpAnyH_take (i := 2) (oi := ?oi2z00) (v := ?v2z00) ?hi2z00 (by as_aux_lemma => kernel_rfl) (by as_aux_lemma => kernel_rfl) (by as_aux_lemma => kernel_rfl) ?hQ2z00 (Or.inl ⟨?hw2z00, ?hy2z00⟩) (by assumption) ?r2z00
                      case hi2z00 => (simp only [List.getElem?_toArray, List.getElem?_cons_succ, List.getElem?_cons_zero]; rfl)
                      case hQ2z00 => exact fun _ _ _ h => h
                      case hw2z00 => rfl
                      case hy2z00 => (intro w hSw; (try dsimp only at hSw); go_simp; (try with_reducible rfl))
                      (try simp only [Act.put, List.setIfInBounds_toArray, List.set_cons_zero, List.set_cons_succ])
                      refine wpAnyH_take (i := 3) (oi := ?oi3z00) (v := ?v3z00) ?hi3z00 (by as_aux_lemma => kernel_rfl) (by as_aux_lemma => kernel_rfl) (by as_aux_lemma => kernel_rfl) ?hQ3z00 (Or.inl ⟨?hw3z00, ?hy3z00⟩) (by assumption) ?r3z00
                      case hi3z00 => (simp only [List.getElem?_toArray, List.getElem?_cons_succ, List.getElem?_cons_zero]; rfl)
                      case hQ3z00 => exact fun _ _ _ h => h
                      case hw3z00 => rfl
                      case hy3z00 => (intro w hSw; (try dsimp only at hSw); go_simp; (try with_reducible rfl))
                      (try simp only [Act.put, List.setIfInBounds_toArray, List.set_cons_zero, List.set_cons_succ])
                      refine wpAnyH_take (i := 4) (oi := ?oi4z00) (v := ?v4z00) ?hi4z00 (by as_aux_lemma => kernel_rfl) (by as_aux_lemma => kernel_rfl) (by as_aux_lemma => kernel_rfl) ?hQ4z00 (Or.inl ⟨?hw4z00, ?hy4z00⟩) (by assumption) ?r4z00
                      case hi4z00 => (simp only [List.getElem?_toArray, List.getElem?_cons_succ, List.getElem?_cons_zero]; rfl)
                      case hQ4z00 => exact fun _ _ _ h => h
                      case hw4z00 => rfl
                      case hy4z00 => (intro w hSw; (try dsimp only at hSw); go_simp; (try with_reducible rfl))
                      (try simp only [Act.put, List.setIfInBounds_toArray, List.set_cons_zero, List.set_cons_succ])
                      refine wpAnyH_take (i := 5) (oi := ?oi5z00) (v := ?v5z00) ?hi5z00 (by as_aux_lemma => kernel_rfl) (by as_aux_lemma => kernel_rfl) (by as_aux_lemma => kernel_rfl) ?hQ5z00 (Or.inl ⟨?hw5z00, ?hy5z00⟩) (by assumption) ?r5z00
                      case hi5z00 => (simp only [List.getElem?_toArray, List.getElem?_cons_succ, List.getElem?_cons_zero]; rfl)
                      case hQ5z00 => exact fun _ _ _ h => h
                      case hw5z00 => rfl
                      case hy5z00 => (intro w hSw; (try dsimp only at hSw); go_simp; (try with_reducible rfl))
                      (try simp only [Act.put, List.setIfInBounds_toArray, List.set_cons_zero, List.set_cons_succ])
                      refine wpAnyH_take (i := 6) (oi := ?oi6z00) (v := ?v6z00) ?hi6z00 (by as_aux_lemma => kernel_rfl) (by as_aux_lemma => kernel_rfl) (by as_aux_lemma => kernel_rfl) ?hQ6z00 (Or.inl ⟨?hw6z00, ?hy6z00⟩) (by assumption) ?r6z00
                      case hi6z00 => (simp only [List.getElem?_toArray, List.getElem?_cons_succ, List.getElem?_cons_zero]; rfl)
                      case hQ6z00 => exact fun _ _ _ h => h
                      case hw6z00 => rfl
                      case hy6z00 => (intro w hSw; (try dsimp only at hSw); go_simp; (try with_reducible rfl))
                      (try simp only [Act.put, List.setIfInBounds_toArray, List.set_cons_zero, List.set_cons_succ])
                      refine wpAnyH_take (i := 7) (oi := ?oi7z00) (v := ?v7z00) ?hi7z00 (by as_aux_lemma => kernel_rfl) (by as_aux_lemma => kernel_rfl) (by as_aux_lemma => kernel_rfl) ?hQ7z00 (Or.inl ⟨?hw7z00, ?hy7z00⟩) (by assumption) ?r7z00
                      case hi7z00 => (simp only [List.getElem?_toArray, List.getElem?_cons_succ, List.getElem?_cons_zero]; rfl)
                      case hQ7z00 => exact fun _ _ _ h => h
                      case hw7z00 => rfl
                      case hy7z00 => (intro w hSw; (try dsimp only at hSw); go_simp; (try with_reducible rfl))
                      (try simp only [Act.put, List.setIfInBounds_toArray, List.set_cons_zero, List.set_cons_succ])
                      as_aux_lemma =>
                      refine wpAnyH_take (i := 8) (oi := ?oi8z00) (v := ?v8z00) ?hi8z00 (by as_aux_lemma => kernel_rfl) (by as_aux_lemma => kernel_rfl) (by as_aux_lemma => kernel_rfl) ?hQ8z00 (Or.inl ⟨?hw8z00, ?hy8z00⟩) (by assumption) ?r8z00
                      case hi8z00 => (simp only [List.getElem?_toArray, List.getElem?_cons_succ, List.getElem?_cons_zero]; rfl)
                      case hQ8z00 => exact fun _ _ _ h => h
                      case hw8z00 => rfl
                      case hy8z00 => (intro w hSw; (try dsimp only at hSw); go_simp; (try with_reducible rfl))
                      (try simp only [Act.put, List.setIfInBounds_toArray, List.set_cons_zero, List.set_cons_succ])
                      refine wpAnyH_take (i := 9) (oi := ?oi9z00) (v := ?v9z00) ?hi9z00 (by as_aux_lemma => kernel_rfl) (by as_aux_lemma => kernel_rfl) (by as_aux_lemma => kernel_rfl) ?hQ9z00 (Or.inl ⟨?hw9z00, ?hy9z00⟩) (by assumption) ?r9z00
                      case hi9z00 => (simp only [List.getElem?_toArray, List.getElem?_cons_succ, List.getElem?_cons_zero]; rfl)
                      case hQ9z00 => exact fun _ _ _ h => h
                      case hw9z00 => rfl
                      case hy9z00 => (intro w hSw; (try dsimp only at hSw); go_simp; (try with_reducible rfl))
                      (try simp only [Act.put, List.setIfInBounds_toArray, List.set_cons_zero, List.set_cons_succ])
                      refine wpAnyH_take (i := 10) (oi := ?oi10z00) (v := undef) ?hi10z00 (by as_aux_lemma => kernel_rfl) (by as_aux_lemma => kernel_rfl) (by as_aux_lemma => kernel_rfl) ?hQ10z00 (Or.inr ⟨?hw10z00, rfl⟩) (by assumption) ?r10z00
                      case hi10z00 => (simp only [List.getElem?_toArray, List.getElem?_cons_succ, List.getElem?_cons_zero]; rfl)
                      case hQ10z00 => exact fun _ _ _ h => h
                      case hw10z00 => rfl
                      (try simp only [Act.put, List.setIfInBounds_toArray, List.set_cons_zero, List.set_cons_succ])
                      refine wpAnyH_take (i := 11) (oi := ?oi11z00) (v := undef) ?hi11z00 (by as_aux_lemma => kernel_rfl) (by as_aux_lemma => kernel_rfl) (by as_aux_lemma => kernel_rfl) ?hQ11z00 (Or.inr ⟨?hw11z00, rfl⟩) (by assumption) ?r11z00
                      case hi11z00 => (simp only [List.getElem?_toArray, List.getElem?_cons_succ, List.getElem?_cons_zero]; rfl)
                      case hQ11z00 => exact fun _ _ _ h => h
                      case hw11z00 => rfl
                      (try simp only [Act.put, List.setIfInBounds_toArray, List.set_cons_zero, List.set_cons_succ])
                      refine wpAnyH_take (i := 12) (oi := ?oi12z00) (v := undef) ?hi12z00 (by as_aux_lemma => kernel_rfl) (by as_aux_lemma => kernel_rfl) (by as_aux_lemma => kernel_rfl) ?hQ12z00 (Or.inr ⟨?hw12z00, rfl⟩) (by assumption) ?r12z00
                      case hi12z00 => (simp only [List.getElem?_toArray, List.getElem?_cons_succ, List.getElem?_cons_zero]; rfl)
                      case hQ12z00 => exact fun _ _ _ h => h
                      case hw12z00 => rfl
                      (try simp only [Act.put, List.setIfInBounds_toArray, List.set_cons_zero, List.set_cons_succ])
                      refine wpAnyH_take (i := 13) (oi := ?oi13z00) (v := undef) ?hi13z00 (by as_aux_lemma => kernel_rfl) (by as_aux_lemma => kernel_rfl) (by as_aux_lemma => kernel_rfl) ?hQ13z00 (Or.inr ⟨?hw13z00, rfl⟩) (by assumption) ?r13z00
                      case hi13z00 => (simp only [List.getElem?_toArray, List.getElem?_cons_succ, List.getElem?_cons_zero]; rfl)
                      case hQ13z00 => exact fun _ _ _ h => h
                      case hw13z00 => rfl
                      (try simp only [Act.put, List.setIfInBounds_toArray, List.set_cons_zero, List.set_cons_succ])
                      refine wpAnyH_take (i := 14) (oi := ?oi14z00) (v := undef) ?hi14z00 (by as_aux_lemma => kernel_rfl) (by as_aux_lemma => kernel_rfl) (by as_aux_lemma => kernel_rfl) ?hQ14z00 (Or.inr ⟨?hw14z00, rfl⟩) (by assumption) ?r14z00
                      case hi14z00 => (simp only [List.getElem?_toArray, List.getElem?_cons_succ, List.getElem?_cons_zero]; rfl)
                      case hQ14z00 => exact fun _ _ _ h => h
                      case hw14z00 => rfl
                      (try simp only [Act.put, List.setIfInBounds_toArray, List.set_cons_zero, List.set_cons_succ])
                      refine wpAnyH_take (i := 15) (oi := ?oi15z00) (v := undef) ?hi15z00 (by as_aux_lemma => kernel_rfl) (by as_aux_lemma => kernel_rfl) (by as_aux_lemma => kernel_rfl) ?hQ15z00 (Or.inr ⟨?hw15z00, rfl⟩) (by assumption) ?r15z00
                      case hi15z00 => (simp only [List.getElem?_toArray, List.getElem?_cons_succ, List.getElem?_cons_zero]; rfl)
                      case hQ15z00 => exact fun _ _ _ h => h
                      case hw15z00 => rfl
                      (try simp only [Act.put, List.setIfInBounds_toArray, List.set_cons_zero, List.set_cons_succ])
                      as_aux_lemma =>
                      refine wpAnyH_take (i := 16) (oi := ?oi16z00) (v := undef) ?hi16z00 (by as_aux_lemma => kernel_rfl) (by as_aux_lemma => kernel_rfl) (by as_aux_lemma => kernel_rfl) ?hQ16z00 (Or.inr ⟨?hw16z00, rfl⟩) (by assumption) ?r16z00
                      case hi16z00 => (simp only [List.getElem?_toArray, List.getElem?_cons_succ, List.getElem?_cons_zero]; rfl)
                      case hQ16z00 => exact fun _ _ _ h => h
                      case hw16z00 => rfl
                      (try simp only [Act.put, List.setIfInBounds_toArray, List.set_cons_zero, List.set_cons_succ])
                      refine wpAnyH_take (i := 17) (oi := ?oi17z00) (v := undef) ?hi17z00 (by as_aux_lemma => kernel_rfl) (by as_aux_lemma => kernel_rfl) (by as_aux_lemma => kernel_rfl) ?hQ17z00 (Or.inr ⟨?hw17z00, rfl⟩) (by assumption) ?r17z00
                      case hi17z00 => (simp only [List.getElem?_toArray, List.getElem?_cons_succ, List.getElem?_cons_zero]; rfl)
                      case hQ17z00 => exact fun _ _ _ h => h
                      case hw17z00 => rfl
                      (try simp only [Act.put, List.setIfInBounds_toArray, List.set_cons_zero, List.set_cons_succ])
                      refine wpAnyH_take (i := 18) (oi := ?oi18z00) (v := undef) ?hi18z00 (by as_aux_lemma => kernel_rfl) (by as_aux_lemma => kernel_rfl) (by as_aux_lemma => kernel_rfl) ?hQ18z00 (Or.inr ⟨?hw18z00, rfl⟩) (by assumption) ?r18z00
                      case hi18z00 => (simp only [List.getElem?_toArray, List.getElem?_cons_succ, List.getElem?_cons_zero]; rfl)
                      case hQ18z00 => exact fun _ _ _ h => h
                      case hw18z00 => rfl
                      (try simp only [Act.put, List.setIfInBounds_toArray, List.set_cons_zero, List.set_cons_succ])
                      refine wpAnyH_take (i := 19) (oi := ?oi19z00) (v := undef) ?hi19z00 (by as_aux_lemma => kernel_rfl) (by as_aux_lemma => kernel_rfl) (by as_aux_lemma => kernel_rfl) ?hQ19z00 (Or.inr ⟨?hw19z00, rfl⟩) (by assumption) ?r19z00
                      case hi19z00 => (simp only [List.getElem?_toArray, List.getElem?_cons_succ, List.getElem?_cons_zero]; rfl)
                      case hQ19z00 => exact fun _ _ _ h => h
                      case hw19z00 => rfl
                      (try simp only [Act.put, List.setIfInBounds_toArray, List.set_cons_zero, List.set_cons_succ])
                      refine wpAnyH_take (i := 20) (oi := ?oi20z00) (v := undef) ?hi20z00 (by as_aux_lemma => kernel_rfl) (by as_aux_lemma => kernel_rfl) (by as_aux_lemma => kernel_rfl) ?hQ20z00 (Or.inr ⟨?hw20z00, rfl⟩) (by assumption) ?r20z00
                      case hi20z00 => (simp only [List.getElem?_toArray, List.getElem?_cons_succ, List.getElem?_cons_zero]; rfl)
                      case hQ20z00 => exact fun _ _ _ h => h
                      case hw20z00 => rfl
                      (try simp only [Act.put, List.setIfInBounds_toArray, List.set_cons_zero, List.set_cons_succ])
                      refine wpAnyH_take (i := 21) (oi := ?oi21z00) (v := undef) ?hi21z00 (by as_aux_lemma => kernel_rfl) (by as_aux_lemma => kernel_rfl) (by as_aux_lemma => kernel_rfl) ?hQ21z00 (Or.inr ⟨?hw21z00, rfl⟩) (by assumption) ?r21z00
                      case hi21z00 => (simp only [List.getElem?_toArray, List.getElem?_cons_succ, List.getElem?_cons_zero]; rfl)
                      case hQ21z00 => exact fun _ _ _ h => h
                      case hw21z00 => rfl
                      (try simp only [Act.put, List.setIfInBounds_toArray, List.set_cons_zero, List.set_cons_succ])
                      refine wpAnyH_take (i := 22) (oi := ?oi22z00) (v := undef) ?hi22z00 (by as_aux_lemma => kernel_rfl) (by as_aux_lemma => kernel_rfl) (by as_aux_lemma => kernel_rfl) ?hQ22z00 (Or.inr ⟨?hw22z00, rfl⟩) (by assumption) ?r22z00
                      case hi22z00 => (simp only [List.getElem?_toArray, List.getElem?_cons_succ, List.getElem?_cons_zero]; rfl)
                      case hQ22z00 => exact fun _ _ _ h => h
                      case hw22z00 => rfl
                      (try simp only [Act.put, List.setIfInBounds_toArray, List.set_cons_zero, List.set_cons_succ])
                      refine wpAnyH_take (i := 23) (oi := ?oi23z00) (v := undef) ?hi23z00 (by as_aux_lemma => kernel_rfl) (by as_aux_lemma => kernel_rfl) (by as_aux_lemma => kernel_rfl) ?hQ23z00 (Or.inr ⟨?hw23z00, rfl⟩) (by assumption) ?r23z00
                      case hi23z00 => (simp only [List.getElem?_toArray, List.getElem?_cons_succ, List.getElem?_cons_zero]; rfl)
                      case hQ23z00 => exact fun _ _ _ h => h
                      case hw23z00 => rfl
                      (try simp only [Act.put, List.setIfInBounds_toArray, List.set_cons_zero, List.set_cons_succ])
                      as_aux_lemma =>
                      refine wpAnyH_take (i := 24) (oi := ?oi24z00) (v := ?v24z00) ?hi24z00 (by as_aux_lemma => kernel_rfl) (by as_aux_lemma => kernel_rfl) (by as_aux_lemma => kernel_rfl) ?hQ24z00 (Or.inl ⟨?hw24z00, ?hy24z00⟩) (by assumption) ?r24z00
                      case hi24z00 => (simp only [List.getElem?_toArray, List.getElem?_cons_succ, List.getElem?_cons_zero]; rfl)
                      case hQ24z00 => exact fun _ _ _ h => h
                      case hw24z00 => rfl
                      case hy24z00 => (intro w hSw; (try dsimp only at hSw); go_simp; (try with_reducible rfl))
                      (try simp only [Act.put, List.setIfInBounds_toArray, List.set_cons_zero, List.set_cons_succ])
                      refine wpAnyH_take (i := 25) (oi := ?oi25z00) (v := ?v25z00) ?hi25z00 (by as_aux_lemma => kernel_rfl) (by as_aux_lemma => kernel_rfl) (by as_aux_lemma => kernel_rfl) ?hQ25z00 (Or.inl ⟨?hw25z00, ?hy25z00⟩) (by assumption) ?r25z00
                      case hi25z00 => (simp only [List.getElem?_toArray, List.getElem?_cons_succ, List.getElem?_cons_zero]; rfl)
                      case hQ25z00 => exact fun _ _ _ h => h
                      case hw25z00 => rfl
                      case hy25z00 => (intro w hSw; (try dsimp only at hSw); go_simp; (try with_reducible rfl))
                      (try simp only [Act.put, List.setIfInBounds_toArray, List.set_cons_zero, List.set_cons_succ])
                      refine wpAnyH_take (i := 26) (oi := ?oi26z00) (v := ?v26z00) ?hi26z00 (by as_aux_lemma => kernel_rfl) (by as_aux_lemma => kernel_rfl) (by as_aux_lemma => kernel_rfl) ?hQ26z00 (Or.inl ⟨?hw26z00, ?hy26z00⟩) (by assumption) ?r26z00
                      case hi26z00 => (simp only [List.getElem?_toArray, List.getElem?_cons_succ, List.getElem?_cons_zero]; rfl)
                      case hQ26z00 => exact fun _ _ _ h => h
                      case hw26z00 => rfl
                      case hy26z00 => (intro w hSw; (try dsimp only at hSw); go_simp; (try with_reducible rfl))
                      (try simp only [Act.put, List.setIfInBounds_toArray, List.set_cons_zero, List.set_cons_succ])
                      refine wpAnyH_take (i := 27) (oi := ?oi27z00) (v := ?v27z00) ?hi27z00 (by as_aux_lemma => kernel_rfl) (by as_aux_lemma => kernel_rfl) (by as_aux_lemma => kernel_rfl) ?hQ27z00 (Or.inl ⟨?hw27z00, ?hy27z00⟩) (by assumption) ?r27z00
                      case hi27z00 => (simp only [List.getElem?_toArray, List.getElem?_cons_succ, List.getElem?_cons_zero]; rfl)
                      case hQ27z00 => exact fun _ _ _ h => h
                      case hw27z00 => rfl
                      case hy27z00 => (intro w hSw; (try dsimp only at hSw); go_simp; (try with_reducible rfl))
                      (try simp only [Act.put, List.setIfInBounds_toArray, List.set_cons_zero, List.set_cons_succ])
                      refine wpAnyH_take (i := 28) (oi := ?oi28z00) (v := ?v28z00) ?hi28z00 (by as_aux_lemma => kernel_rfl) (by as_aux_lemma => kernel_rfl) (by as_aux_lemma => kernel_rfl) ?hQ28z00 (Or.inl ⟨?hw28z00, ?hy28z00⟩) (by assumption) ?r28z00
                      case hi28z00 => (simp only [List.getElem?_toArray, List.getElem?_cons_succ, List.getElem?_cons_zero]; rfl)
                      case hQ28z00 => exact fun _ _ _ h => h
                      case hw28z00 => rfl
                      case hy28z00 => (intro w hSw; (try dsimp only at hSw); go_simp; (try with_reducible rfl))
                      (try simp only [Act.put, List.setIfInBounds_toArray, List.set_cons_zero, List.set_cons_succ])
                      refine wpAnyH_take (i := 29) (oi := ?oi29z00) (v := ?v29z00) ?hi29z00 (by as_aux_lemma => kernel_rfl) (by as_aux_lemma => kernel_rfl) (by as_aux_lemma => kernel_rfl) ?hQ29z00 (Or.inl ⟨?hw29z00, ?hy29z00⟩) (by assumption) ?r29z00
                      case hi29z00 => (simp only [List.getElem?_toArray, List.getElem?_cons_succ, List.getElem?_cons_zero]; rfl)
                      case hQ29z00 => exact fun _ _ _ h => h
                      case hw29z00 => rfl
                      case hy29z00 => (intro w hSw; (try dsimp only at hSw); go_simp; (try with_reducible rfl))
                      (try simp only [Act.put, List.setIfInBounds_toArray, List.set_cons_zero, List.set_cons_succ])
                      refine wpAnyH_take (i := 30) (oi := ?oi30z00) (v := ?v30z00) ?hi30z00 (by as_aux_lemma => kernel_rfl) (by as_aux_lemma => kernel_rfl) (by as_aux_lemma => kernel_rfl) ?hQ30z00 (Or.inl ⟨?hw30z00, ?hy30z00⟩) (by assumption) ?r30z00
                      case hi30z00 => (simp only [List.getElem?_toArray, List.getElem?_cons_succ, List.getElem?_cons_zero]; rfl)
                      case hQ30z00 => exact fun _ _ _ h => h
                      case hw30z00 => rfl
                      case hy30z00 => (intro w hSw; (try dsimp only at hSw); go_simp; (try with_reducible rfl))
                      (try simp only [Act.put, List.setIfInBounds_toArray, List.set_cons_zero, List.set_cons_succ])
                      refine wpAnyH_take (i := 31) (oi := ?oi31z00) (v := ?v31z00) ?hi31z00 (by as_aux_lemma => kernel_rfl) (by as_aux_lemma => kernel_rfl) (by as_aux_lemma => kernel_rfl) ?hQ31z00 (Or.inl ⟨?hw31z00, ?hy31z00⟩) (by assumption) ?r31z00
                      case hi31z00 => (simp only [List.getElem?_toArray, List.getElem?_cons_succ, List.getElem?_cons_zero]; rfl)
                      case hQ31z00 => exact fun _ _ _ h => h
                      case hw31z00 => rfl
                      case hy31z00 => (intro w hSw; (try dsimp only at hSw); go_simp; (try with_reducible rfl))
                      (try simp only [Act.put, List.setIfInBounds_toArray, List.set_cons_zero, List.set_cons_succ])
                      as_aux_lemma =>
                      refine wpAnyH_take (i := 32) (oi := ?oi32z00) (v := ?v32z00) ?hi32z00 (by as_aux_lemma => kernel_rfl) (by as_aux_lemma => kernel_rfl) (by as_aux_lemma => kernel_rfl) ?hQ32z00 (Or.inl ⟨?hw32z00, ?hy32z00⟩) (by assumption) ?r32z00
                      case hi32z00 => (simp only [List.getElem?_toArray, List.getElem?_cons_succ, List.getElem?_cons_zero]; rfl)
                      case hQ32z00 => exact fun _ _ _ h => h
                      case hw32z00 => rfl
                      case hy32z00 => (intro w hSw; (try dsimp only at hSw); go_simp; (try with_reducible rfl))
                      (try simp only [Act.put, List.setIfInBounds_toArray, List.set_cons_zero, List.set_cons_succ])
                      refine wpAnyH_take (i := 33) (oi := ?oi33z00) (v := ?v33z00) ?hi33z00 (by as_aux_lemma => kernel_rfl) (by as_aux_lemma => kernel_rfl) (by as_aux_lemma => kernel_rfl) ?hQ33z00 (Or.inl ⟨?hw33z00, ?hy33z00⟩) (by assumption) ?r33z00
                      case hi33z00 => (simp only [List.getElem?_toArray, List.getElem?_cons_succ, List.getElem?_cons_zero]; rfl)
                      case hQ33z00 => exact fun _ _ _ h => h
                      case hw33z00 => rfl
                      case hy33z00 => (intro w hSw; (try dsimp only at hSw); go_simp; (try with_reducible rfl))
                      (try simp only [Act.put, List.setIfInBounds_toArray, List.set_cons_zero, List.set_cons_succ])
                      refine wpAnyH_take (i := 34) (oi := ?oi34z00) (v := ?v34z00) ?hi34z00 (by as_aux_lemma => kernel_rfl) (by as_aux_lemma => kernel_rfl) (by as_aux_lemma => kernel_rfl) ?hQ34z00 (Or.inl ⟨?hw34z00, ?hy34z00⟩) (by assumption) ?r34z00
                      case hi34z00 => (simp only [List.getElem?_toArray, List.getElem?_cons_succ, List.getElem?_cons_zero]; rfl)
                      case hQ34z00 => exact fun _ _ _ h => h
                      case hw34z00 => rfl
                      case hy34z00 => (intro w hSw; (try dsimp only at hSw); go_simp; (try with_reducible rfl))
                      (try simp only [Act.put, List.setIfInBounds_toArray, List.set_cons_zero, List.set_cons_succ])
                      refine wpAnyH_take (i := 35) (oi := ?oi35z00) (v := ?v35z00) ?hi35z00 (by as_aux_lemma => kernel_rfl) (by as_aux_lemma => kernel_rfl) (by as_aux_lemma => kernel_rfl) ?hQ35z00 (Or.inl ⟨?hw35z00, ?hy35z00⟩) (by assumption) ?r35z00
                      case hi35z00 => (simp only [List.getElem?_toArray, List.getElem?_cons_succ, List.getElem?_cons_zero]; rfl)
                      case hQ35z00 => exact fun _ _ _ h => h
                      case hw35z00 => rfl
                      case hy35z00 => (intro w hSw; (try dsimp only at hSw); go_simp; (try with_reducible rfl))
                      (try simp only [Act.put, List.setIfInBounds_toArray, List.set_cons_zero, List.set_cons_succ])
                      refine wpAnyH_take (i := 36) (oi := ?oi36z00) (v := ?v36z00) ?hi36z00 (by as_aux_lemma => kernel_rfl) (by as_aux_lemma => kernel_rfl) (by as_aux_lemma => kernel_rfl) ?hQ36z00 (Or.inl ⟨?hw36z00, ?hy36z00⟩) (by assumption) ?r36z00
                      case hi36z00 => (simp only [List.getElem?_toArray, List.getElem?_cons_succ, List.getElem?_cons_zero]; rfl)
                      case hQ36z00 => exact fun _ _ _ h => h
                      case hw36z00 => rfl
                      case hy36z00 => (intro w hSw; (try dsimp only at hSw); go_simp; (try with_reducible rfl))
                      (try simp only [Act.put, List.setIfInBounds_toArray, List.set_cons_zero, List.set_cons_succ])
                      refine wpAnyH_take (i := 37) (oi := ?oi37z00) (v := ?v37z00) ?hi37z00 (by as_aux_lemma => kernel_rfl) (by as_aux_lemma => kernel_rfl) (by as_aux_lemma => kernel_rfl) ?hQ37z00 (Or.inl ⟨?hw37z00, ?hy37z00⟩) (by assumption) ?r37z00
                      case hi37z00 => (simp only [List.getElem?_toArray, List.getElem?_cons_succ, List.getElem?_cons_zero]; rfl)
                      case hQ37z00 => exact fun _ _ _ h => h
                      case hw37z00 => rfl
                      case hy37z00 => (intro w hSw; (try dsimp only at hSw); go_simp; (try with_reducible rfl))
                      (try simp only [Act.put, List.setIfInBounds_toArray, List.set_cons_zero, List.set_cons_succ])
                      refine wpAnyH_take (i := 38) (oi := ?oi38z00) (v := ?v38z00) ?hi38z00 (by as_aux_lemma => kernel_rfl) (by as_aux_lemma => kernel_rfl) (by as_aux_lemma => kernel_rfl) ?hQ38z00 (Or.inl ⟨?hw38z00, ?hy38z00⟩) (by assumption) ?r38z00
                      case hi38z00 => (simp only [List.getElem?_toArray, List.getElem?_cons_succ, List.getElem?_cons_zero]; rfl)
                      case hQ38z00 => exact fun _ _ _ h => h
                      case hw38z00 => rfl
                      case hy38z00 => (intro w hSw; (try dsimp only at hSw); go_simp; (try with_reducible rfl))
                      (try simp only [Act.put, List.setIfInBounds_toArray, List.set_cons_zero, List.set_cons_succ])
                      refine wpAnyH_take (i := 39) (oi := ?oi39z00) (v := undef) ?hi39z00 (by as_aux_lemma => kernel_rfl) (by as_aux_lemma => kernel_rfl) (by as_aux_lemma => kernel_rfl) ?hQ39z00 (Or.inr ⟨?hw39z00, rfl⟩) (by assumption) ?r39z00
                      case hi39z00 => (simp only [List.getElem?_toArray, List.getElem?_cons_succ, List.getElem?_cons_zero]; rfl)
                      case hQ39z00 => exact fun _ _ _ h => h
                      case hw39z00 => rfl
                      (try simp only [Act.put, List.setIfInBounds_toArray, List.set_cons_zero, List.set_cons_succ])
                      as_aux_lemma =>
                      refine wpAnyH_take (i := 40) (oi := ?oi40z00) (v := undef) ?hi40z00 (by as_aux_lemma => kernel_rfl) (by as_aux_lemma => kernel_rfl) (by as_aux_lemma => kernel_rfl) ?hQ40z00 (Or.inr ⟨?hw40z00, rfl⟩) (by assumption) ?r40z00
                      case hi40z00 => (simp only [List.getElem?_toArray, List.getElem?_cons_succ, List.getElem?_cons_zero]; rfl)
                      case hQ40z00 => exact fun _ _ _ h => h
                      case hw40z00 => rfl
                      (try simp only [Act.put, List.setIfInBounds_toArray, List.set_cons_zero, List.set_cons_succ])
                      refine wpAnyH_take (i := 41) (oi := ?oi41z00) (v := ?v41z00) ?hi41z00 (by as_aux_lemma => kernel_rfl) (by as_aux_lemma => kernel_rfl) (by as_aux_lemma => kernel_rfl) ?hQ41z00 (Or.inl ⟨?hw41z00, ?hy41z00⟩) (by assumption) ?r41z00
                      case hi41z00 => (simp only [List.getElem?_toArray, List.getElem?_cons_succ, List.getElem?_cons_zero]; rfl)
                      case hQ41z00 => exact fun _ _ _ h => h
                      case hw41z00 => rfl
                      case hy41z00 => (intro w hSw; (try dsimp only at hSw); go_simp; (try with_reducible rfl))
                      (try simp only [Act.put, List.setIfInBounds_toArray, List.set_cons_zero, List.set_cons_succ])
                      refine wpAnyH_take (i := 42) (oi := ?oi42z00) (v := ?v42z00) ?hi42z00 (by as_aux_lemma => kernel_rfl) (by as_aux_lemma => kernel_rfl) (by as_aux_lemma => kernel_rfl) ?hQ42z00 (Or.inl ⟨?hw42z00, ?hy42z00⟩) (by assumption) ?r42z00
                      case hi42z00 => (simp only [List.getElem?_toArray, List.getElem?_cons_succ, List.getElem?_cons_zero]; rfl)
                      case hQ42z00 => exact fun _ _ _ h => h
                      case hw42z00 => rfl
                      case hy42z00 => (intro w hSw; (try dsimp only at hSw); go_simp; (try with_reducible rfl))
                      (try simp only [Act.put, List.setIfInBounds_toArray, List.set_cons_zero, List.set_cons_succ])
                      refine wpAnyH_take (i := 43) (oi := ?oi43z00) (v := undef) ?hi43z00 (by as_aux_lemma => kernel_rfl) (by as_aux_lemma => kernel_rfl) (by as_aux_lemma => kernel_rfl) ?hQ43z00 (Or.inr ⟨?hw43z00, rfl⟩) (by assumption) ?r43z00
                      case hi43z00 => (simp only [List.getElem?_toArray, List.getElem?_cons_succ, List.getElem?_cons_zero]; rfl)
                      case hQ43z00 => exact fun _ _ _ h => h
                      case hw43z00 => rfl
                      (try simp only [Act.put, List.setIfInBounds_toArray, List.set_cons_zero, List.set_cons_succ])
                      refine wpAnyH_take (i := 44) (oi := ?oi44z00) (v := undef) ?hi44z00 (by as_aux_lemma => kernel_rfl) (by as_aux_lemma => kernel_rfl) (by as_aux_lemma => kernel_rfl) ?hQ44z00 (Or.inr ⟨?hw44z00, rfl⟩) (by assumption) ?r44z00
                      case hi44z00 => (simp only [List.getElem?_toArray, List.getElem?_cons_succ, List.getElem?_cons_zero]; rfl)
                      case hQ44z00 => exact fun _ _ _ h => h
                      case hw44z00 => rfl
                      (try simp only [Act.put, List.setIfInBounds_toArray, List.set_cons_zero, List.set_cons_succ])
                      refine wpAnyH_take (i := 45) (oi := ?oi45z00) (v := undef) ?hi45z00 (by as_aux_lemma => kernel_rfl) (by as_aux_lemma => kernel_rfl) (by as_aux_lemma => kernel_rfl) ?hQ45z00 (Or.inr ⟨?hw45z00, rfl⟩) (by assumption) ?r45z00
                      case hi45z00 => (simp only [List.getElem?_toArray, List.getElem?_cons_succ, List.getElem?_cons_zero]; rfl)
                      case hQ45z00 => exact fun _ _ _ h => h
                      case hw45z00 => rfl
                      (try simp only [Act.put, List.setIfInBounds_toArray, List.set_cons_zero, List.set_cons_succ])
                      refine wpAnyH_take (i := 46) (oi := ?oi46z00) (v := undef) ?hi46z00 (by as_aux_lemma => kernel_rfl) (by as_aux_lemma => kernel_rfl) (by as_aux_lemma => kernel_rfl) ?hQ46z00 (Or.inr ⟨?hw46z00, rfl⟩) (by assumption) ?r46z00
                      case hi46z00 => (simp only [List.getElem?_toArray, List.getElem?_cons_succ, List.getElem?_cons_zero]; rfl)
                      case hQ46z00 => exact fun _ _ _ h => h
                      case hw46z00 => rfl
                      (try simp only [Act.put, List.setIfInBounds_toArray, List.set_cons_zero, List.set_cons_succ])
                      refine wpAnyH_take (i := 47) (oi := ?oi47z00) (v := undef) ?hi47z00 (by as_aux_lemma => kernel_rfl) (by as_aux_lemma => kernel_rfl) (by as_aux_lemma => kernel_rfl) ?hQ47z00 (Or.inr ⟨?hw47z00, rfl⟩) (by assumption) ?r47z00
                      case hi47z00 => (simp only [List.getElem?_toArray, List.getElem?_cons_succ, List.getElem?_cons_zero]; rfl)
                      case hQ47z00 => exact fun _ _ _ h => h
                      case hw47z00 => rfl
                      (try simp only [Act.put, List.setIfInBounds_toArray, List.set_cons_zero, List.set_cons_succ])
                      as_aux_lemma =>
                      refine wpAnyH_take (i := 48) (oi := ?oi48z00) (v := undef) ?hi48z00 (by as_aux_lemma => kernel_rfl) (by as_aux_lemma => kernel_rfl) (by as_aux_lemma => kernel_rfl) ?hQ48z00 (Or.inr ⟨?hw48z00, rfl⟩) (by assumption) ?r48z00
                      case hi48z00 => (simp only [List.getElem?_toArray, List.getElem?_cons_succ, List.getElem?_cons_zero]; rfl)
                      case hQ48z00 => exact fun _ _ _ h => h
                      case hw48z00 => rfl
                      (try simp only [Act.put, List.setIfInBounds_toArray, List.set_cons_zero, List.set_cons_succ])
                      refine wpAnyH_take (i := 49) (oi := ?oi49z00) (v := undef) ?hi49z00 (by as_aux_lemma => kernel_rfl) (by as_aux_lemma => kernel_rfl) (by as_aux_lemma => kernel_rfl) ?hQ49z00 (Or.inr ⟨?hw49z00, rfl⟩) (by assumption) ?r49z00
                      case hi49z00 => (simp only [List.getElem?_toArray, List.getElem?_cons_succ, List.getElem?_cons_zero]; rfl)
                      case hQ49z00 => exact fun _ _ _ h => h
                      case hw49z00 => rfl
                      (try simp only [Act.put, List.setIfInBounds_toArray, List.set_cons_zero, List.set_cons_succ])
                      refine wpAnyH_take (i := 50) (oi := ?oi50z00) (v := undef) ?hi50z00 (by as_aux_lemma => kernel_rfl) (by as_aux_lemma => kernel_rfl) (by as_aux_lemma => kernel_rfl) ?hQ50z00 (Or.inr ⟨?hw50z00, rfl⟩) (by assumption) ?r50z00
                      case hi50z00 => (simp only [List.getElem?_toArray, List.getElem?_cons_succ, List.getElem?_cons_zero]; rfl)
                      case hQ50z00 => exact fun _ _ _ h => h
                      case hw50z00 => rfl
                      (try simp only [Act.put, List.setIfInBounds_toArray, List.set_cons_zero, List.set_cons_succ])
                      refine wpAnyH_take (i := 51) (oi := ?oi51z00) (v := ?v51z00) ?hi51z00 (by as_aux_lemma => kernel_rfl) (by as_aux_lemma => kernel_rfl) (by as_aux_lemma => kernel_rfl) ?hQ51z00 (Or.inl ⟨?hw51z00, ?hy51z00⟩) (by assumption) ?r51z00
                      case hi51z00 => (simp only [List.getElem?_toArray, List.getElem?_cons_succ, List.getElem?_cons_zero]; rfl)
                      case hQ51z00 => exact fun _ _ _ h => h
                      case hw51z00 => rfl
                      case hy51z00 => (intro w hSw; (try dsimp only at hSw); go_simp; (try with_reducible rfl))
                      (try simp only [Act.put, List.setIfInBounds_toArray, List.set_cons_zero, List.set_cons_succ])
                      refine wpAnyH_take (i := 52) (oi := ?oi52z00) (v := ?v52z00) ?hi52z00 (by as_aux_lemma => kernel_rfl) (by as_aux_lemma => kernel_rfl) (by as_aux_lemma => kernel_rfl) ?hQ52z00 (Or.inl ⟨?hw52z00, ?hy52z00⟩) (by assumption) ?r52z00
                      case hi52z00 => (simp only [List.getElem?_toArray, List.getElem?_cons_succ, List.getElem?_cons_zero]; rfl)
                      case hQ52z00 => exact fun _ _ _ h => h
                      case hw52z00 => rfl
                      case hy52z00 => (intro w hSw; (try dsimp only at hSw); go_simp; (try with_reducible rfl))
                      (try simp only [Act.put, List.setIfInBounds_toArray, List.set_cons_zero, List.set_cons_succ])
                      refine wpAnyH_take (i := 53) (oi := ?oi53z00) (v := ?v53z00) ?hi53z00 (by as_aux_lemma => kernel_rfl) (by as_aux_lemma => kernel_rfl) (by as_aux_lemma => kernel_rfl) ?hQ53z00 (Or.inl ⟨?hw53z00, ?hy53z00⟩) (by assumption) ?r53z00
                      case hi53z00 => (simp only [List.getElem?_toArray, List.getElem?_cons_succ, List.getElem?_cons_zero]; rfl)
                      case hQ53z00 => exact fun _ _ _ h => h
                      case hw53z00 => rfl
                      case hy53z00 => (intro w hSw; (try dsimp only at hSw); go_simp; (try with_reducible rfl))
                      (try simp only [Act.put, List.setIfInBounds_toArray, List.set_cons_zero, List.set_cons_succ])
                      refine wpAnyH_take (i := 54) (oi := ?oi54z00) (v := ?v54z00) ?hi54z00 (by as_aux_lemma => kernel_rfl) (by as_aux_lemma => kernel_rfl) (by as_aux_lemma => kernel_rfl) ?hQ54z00 (Or.inl ⟨?hw54z00, ?hy54z00⟩) (by assumption) ?r54z00
                      case hi54z00 => (simp only [List.getElem?_toArray, List.getElem?_cons_succ, List.getElem?_cons_zero]; rfl)
                      case hQ54z00 => exact fun _ _ _ h => h
                      case hw54z00 => rfl
                      case hy54z00 => (intro w hSw; (try dsimp only at hSw); go_simp; (try with_reducible rfl))
                      (try simp only [Act.put, List.setIfInBounds_toArray, List.set_cons_zero, List.set_cons_succ])
                      refine wpAnyH_take (i := 55) (oi := ?oi55z00) (v := ?v55z00) ?hi55z00 (by as_aux_lemma => kernel_rfl) (by as_aux_lemma => kernel_rfl) (by as_aux_lemma => kernel_rfl) ?hQ55z00 (Or.inl ⟨?hw55z00, ?hy55z00⟩) (by assumption) ?r55z00
                      case hi55z00 => (simp only [List.getElem?_toArray, List.getElem?_cons_succ, List.getElem?_cons_zero]; rfl)
                      case hQ55z00 => exact fun _ _ _ h => h
                      case hw55z00 => rfl
                      case hy55z00 => (intro w hSw; (try dsimp only at hSw); go_simp; (try with_reducible rfl))
                      (try simp only [Act.put, List.setIfInBounds_toArray, List.set_cons_zero, List.set_cons_succ])
                      as_aux_lemma =>
                      refine wpAnyH_take (i := 56) (oi := ?oi56z00) (v := ?v56z00) ?hi56z00 (by as_aux_lemma => kernel_rfl) (by as_aux_lemma => kernel_rfl) (by as_aux_lemma => kernel_rfl) ?hQ56z00 (Or.inl ⟨?hw56z00, ?hy56z00⟩) (by assumption) ?r56z00
                      case hi56z00 => (simp only [List.getElem?_toArray, List.getElem?_cons_succ, List.getElem?_cons_zero]; rfl)
                      case hQ56z00 => exact fun _ _ _ h => h
                      case hw56z00 => rfl
                      case hy56z00 => (intro w hSw; (try dsimp only at hSw); go_simp; (try with_reducible rfl))
                      (try simp only [Act.put, List.setIfInBounds_toArray, List.set_cons_zero, List.set_cons_succ])
                      refine wpAnyH_take (i := 57) (oi := ?oi57z00) (v := ?v57z00) ?hi57z00 (by as_aux_lemma => kernel_rfl) (by as_aux_lemma => kernel_rfl) (by as_aux_lemma => kernel_rfl) ?hQ57z00 (Or.inl ⟨?hw57z00, ?hy57z00⟩) (by assumption) ?r57z00
                      case hi57z00 => (simp only [List.getElem?_toArray, List.getElem?_cons_succ, List.getElem?_cons_zero]; rfl)
                      case hQ57z00 => exact fun _ _ _ h => h
                      case hw57z00 => rfl
                      case hy57z00 => (intro w hSw; (try dsimp only at hSw); go_simp; (try with_reducible rfl))
                      (try simp only [Act.put, List.setIfInBounds_toArray, List.set_cons_zero, List.set_cons_succ])
                      refine wpAnyH_take (i := 58) (oi := ?oi58z00) (v := ?v58z00) ?hi58z00 (by as_aux_lemma => kernel_rfl) (by as_aux_lemma => kernel_rfl) (by as_aux_lemma => kernel_rfl) ?hQ58z00 (Or.inl ⟨?hw58z00, ?hy58z00⟩) (by assumption) ?r58z00
                      case hi58z00 => (simp only [List.getElem?_toArray, List.getElem?_cons_succ, List.getElem?_cons_zero]; rfl)
                      case hQ58z00 => exact fun _ _ _ h => h
                      case hw58z00 => rfl
                      case hy58z00 => (intro w hSw; (try dsimp only at hSw); go_simp; (try with_reducible rfl))
                      (try simp only [Act.put, List.setIfInBounds_toArray, List.set_cons_zero, List.set_cons_succ])
                      refine wpAnyH_take (i := 59) (oi := ?oi59z00) (v := undef) ?hi59z00 (by as_aux_lemma => kernel_rfl) (by as_aux_lemma => kernel_rfl) (by as_aux_lemma => kernel_rfl) ?hQ59z00 (Or.inr ⟨?hw59z00, rfl⟩) (by assumption) ?r59z00
                      case hi59z00 => (simp only [List.getElem?_toArray, List.getElem?_cons_succ, List.getElem?_cons_zero]; rfl)
                      case hQ59z00 => exact fun _ _ _ h => h
                      case hw59z00 => rfl
                      (try simp only [Act.put, List.setIfInBounds_toArray, List.set_cons_zero, List.set_cons_succ])
                      refine wpAnyH_take (i := 60) (oi := ?oi60z00) (v := undef) ?hi60z00 (by as_aux_lemma => kernel_rfl) (by as_aux_lemma => kernel_rfl) (by as_aux_lemma => kernel_rfl) ?hQ60z00 (Or.inr ⟨?hw60z00, rfl⟩) (by assumption) ?r60z00
                      case hi60z00 => (simp only [List.getElem?_toArray, List.getElem?_cons_succ, List.getElem?_cons_zero]; rfl)
                      case hQ60z00 => exact fun _ _ _ h => h
                      case hw60z00 => rfl
                      (try simp only [Act.put, List.setIfInBounds_toArray, List.set_cons_zero, List.set_cons_succ])
                      refine wpAnyH_take (i := 61) (oi := ?oi61z00) (v := undef) ?hi61z00 (by as_aux_lemma => kernel_rfl) (by as_aux_lemma => kernel_rfl) (by as_aux_lemma => kernel_rfl) ?hQ61z00 (Or.inr ⟨?hw61z00, rfl⟩) (by assumption) ?r61z00
                      case hi61z00 => (simp only [List.getElem?_toArray, List.getElem?_cons_succ, List.getElem?_cons_zero]; rfl)
                      case hQ61z00 => exact fun _ _ _ h => h
                      case hw61z00 => rfl
                      (try simp only [Act.put, List.setIfInBounds_toArray, List.set_cons_zero, List.set_cons_succ])
                      refine wpAnyH_take (i := 62) (oi := ?oi62z00) (v := ?v62z00) ?hi62z00 (by as_aux_lemma => kernel_rfl) (by as_aux_lemma => kernel_rfl) (by as_aux_lemma => kernel_rfl) ?hQ62z00 (Or.inl ⟨?hw62z00, ?hy62z00⟩) (by assumption) ?r62z00
                      case hi62z00 => (simp only [List.getElem?_toArray, List.getElem?_cons_succ, List.getElem?_cons_zero]; rfl)
                      case hQ62z00 => exact fun _ _ _ h => h
                      case hw62z00 => rfl
                      case hy62z00 => (intro w hSw; (try dsimp only at hSw); go_simp; (try with_reducible rfl))
                      (try simp only [Act.put, List.setIfInBounds_toArray, List.set_cons_zero, List.set_cons_succ])
                      refine wpAnyH_take (i := 63) (oi := ?oi63z00) (v := ?v63z00) ?hi63z00 (by as_aux_lemma => kernel_rfl) (by as_aux_lemma => kernel_rfl) (by as_aux_lemma => kernel_rfl) ?hQ63z00 (Or.inl ⟨?hw63z00, ?hy63z00⟩) (by assumption) ?r63z00
                      case hi63z00 => (simp only [List.getElem?_toArray, List.getElem?_cons_succ, List.getElem?_cons_zero]; rfl)
                      case hQ63z00 => exact fun _ _ _ h => h
                      case hw63z00 => rfl
                      case hy63z00 => (intro w hSw; (try dsimp only at hSw); go_simp; (try with_reducible rfl))
                      (try simp only [Act.put, List.setIfInBounds_toArray, List.set_cons_zero, List.set_cons_succ])
                      as_aux_lemma =>
                      refine wpAnyH_take (i := 64) (oi := ?oi64z00) (v := ?v64z00) ?hi64z00 (by as_aux_lemma => kernel_rfl) (by as_aux_lemma => kernel_rfl) (by as_aux_lemma => kernel_rfl) ?hQ64z00 (Or.inl ⟨?hw64z00, ?hy64z00⟩) (by assumption) ?r64z00
                      case hi64z00 => (simp only [List.getElem?_toArray, List.getElem?_cons_succ, List.getElem?_cons_zero]; rfl)
                      case hQ64z00 => exact fun _ _ _ h => h
                      case hw64z00 => rfl
                      case hy64z00 => (intro w hSw; (try dsimp only at hSw); go_simp; (try with_reducible rfl))
                      (try simp only [Act.put, List.setIfInBounds_toArray, List.set_cons_zero, List.set_cons_succ])
                      refine wpAnyH_done (by as_aux_lemma => kernel_rfl) ?_ _
                      generalize wc.drew = w4 at hHeld ⊢
                      obtain ⟨Q0, Q1, Q2, Q3, Q5⟩ := hHeld
                      clear ra0 ra1 ra2 ra3 ra4 ra5 ra6 ra7 rn0 rn1 rn2 rn3 rm0 rm1 rm2 rm3 rs0 rs1 rs2 rs3 heq85
                      have cn0 := cell_heap (j := 0) Q2 rfl
                      have cn1 := cell_heap (j := 1) Q2 rfl
                      have cn2 := cell_heap (j := 2) Q2 rfl
                      have cn3 := cell_heap (j := 3) Q2 rfl
                      have cm0 := cell_heap (j := 0) Q5 rfl
                      have cm1 := cell_heap (j := 1) Q5 rfl
                      have cm2 := cell_heap (j := 2) Q5 rfl
                      have cm3 := cell_heap (j := 3) Q5 rfl
                      have fn0 := frozen_pa Q2 0
                      have fn1 := frozen_pa Q2 1
                      have fn2 := frozen_pa Q2 2
                      have fn3 := frozen_pa Q2 3
                      have R0 := Lib.hid Q0
                      have R1 := Lib.hid Q1
                      have R2 := Lib.hid Q2
                      have R3 := Lib.hid Q3
                      have R5 := Lib.hid Q5
                      clear Q0 Q1 Q2 Q3 Q5
                      have e1 : ¬ M = N := by have := HM.out; omega
                      have e2 : ¬ N = M := by have := HM.out; omega
                      have e3 : ¬ M = N + 1 := by have := HM.out; omega
                      have e4 : ¬ N + 1 = M := by have := HM.out; omega
                      have hn0 : w.heap.size ≤ N := by have := HN.out; omega
                      have hn1 : w.heap.size ≤ N + 1 := by have := HN.out; omega
                      have hn2 : w.heap.size ≠ N := by have := HN.out; omega
                      have hn3 : w.heap.size ≠ N + 1 := by have := HN.out; omega
                      go_wp2_with fail
                      go_roundg (60 - (k + 1))
                      case measure => have := HK.out.1; omega
                      case rel =>
                        refine ⟨k + 1, tick + dt, a0, a1, false, s1, s2, s3, (a2), by omega, by go_num, rfl, Lib.hid ⟨by omega, HT2'.out.1, HT2'.out.2⟩, HS, ?_, ?_, ?_, ?_⟩
                        · exact Lib.hid (put4_below R0.out hn0 _ _ _ _)
                        · exact Lib.hid (put4_other R1.out hn2 _ _ _ _)
                        · exact Lib.hid (put4_heap R2.out _ _ _ _)
                        · exact Lib.hid (put4_other R3.out (by omega) _ _ _ _)
                    · as_aux_lemma =>
                      have heq85 := eq85 a0 a1
                      have ra0 : ∀ W : World, W.heap[w.heap.size]? = some (.cells #[.slice A n c, .slice B m d, .int .i64 (x 0), .int .i64 (x 1), .int .i64 (x 2), .int .i64 (x 3), .int .i64 (x 4), .int .i64 (x 5)] 35 (0, 0)) → W.cell? ⟨w.heap.size, 0, none⟩ = some (.slice A n c) := fun W h => cell_heap h rfl
                      have ra1 : ∀ W : World, W.heap[w.heap.size]? = some (.cells #[.slice A n c, .slice B m d, .int .i64 (x 0), .int .i64 (x 1), .int .i64 (x 2), .int .i64 (x 3), .int .i64 (x 4), .int .i64 (x 5)] 35 (0, 0)) → W.cell? ⟨w.heap.size, 1, none⟩ = some (.slice B m d) := fun W h => cell_heap h rfl
                      have ra2 : ∀ W : World, W.heap[w.heap.size]? = some (.cells #[.slice A n c, .slice B m d, .int .i64 (x 0), .int .i64 (x 1), .int .i64 (x 2), .int .i64 (x 3), .int .i64 (x 4), .int .i64 (x 5)] 35 (0, 0)) → W.cell? ⟨w.heap.size, 2, none⟩ = some (.int .i64 (x 0)) := fun W h => cell_heap h rfl
                      have ra3 : ∀ W : World, W.heap[w.heap.size]? = some (.cells #[.slice A n c, .slice B m d, .int .i64 (x 0), .int .i64 (x 1), .int .i64 (x 2), .int .i64 (x 3), .int .i64 (x 4), .int .i64 (x 5)] 35 (0, 0)) → W.cell? ⟨w.heap.size, 3, none⟩ = some (.int .i64 (x 1)) := fun W h => cell_heap h rfl
                      have ra4 : ∀ W : World, W.heap[w.heap.size]? = some (.cells #[.slice A n c, .slice B m d, .int .i64 (x 0), .int .i64 (x 1), .int .i64 (x 2), .int .i64 (x 3), .int .i64 (x 4), .int .i64 (x 5)] 35 (0, 0)) → W.cell? ⟨w.heap.size, 4, none⟩ = some (.int .i64 (x 2)) := fun W h => cell_heap h rfl
                      have ra5 : ∀ W : World, W.heap[w.heap.size]? = some (.cells #[.slice A n c, .slice B m d, .int .i64 (x 0), .int .i64 (x 1), .int .i64 (x 2), .int .i64 (x 3), .int .i64 (x 4), .int .i64 (x 5)] 35 (0, 0)) → W.cell? ⟨w.heap.size, 5, none⟩ = some (.int .i64 (x 3)) := fun W h => cell_heap h rfl
                      have ra6 : ∀ W : World, W.heap[w.heap.size]? = some (.cells #[.slice A n c, .slice B m d, .int .i64 (x 0), .int .i64 (x 1), .int .i64 (x 2), .int .i64 (x 3), .int .i64 (x 4), .int .i64 (x 5)] 35 (0, 0)) → W.cell? ⟨w.heap.size, 6, none⟩ = some (.int .i64 (x 4)) := fun W h => cell_heap h rfl
                      have ra7 : ∀ W : World, W.heap[w.heap.size]? = some (.cells #[.slice A n c, .slice B m d, .int .i64 (x 0), .int .i64 (x 1), .int .i64 (x 2), .int .i64 (x 3), .int .i64 (x 4), .int .i64 (x 5)] 35 (0, 0)) → W.cell? ⟨w.heap.size, 7, none⟩ = some (.int .i64 (x 5)) := fun W h => cell_heap h rfl
                      have rn0 : ∀ W : World, W.heap[N]? = some (.cells #[.bool a0, .bool a1, .int .i64 a2, .bool true] 87 (0, 0)) → W.cell? ⟨N, 0, none⟩ = some (.bool a0) := fun W h => cell_heap h rfl
                      have rn1 : ∀ W : World, W.heap[N]? = some (.cells #[.bool a0, .bool a1, .int .i64 a2, .bool true] 87 (0, 0)) → W.cell? ⟨N, 1, none⟩ = some (.bool a1) := fun W h => cell_heap h rfl
                      have rn2 : ∀ W : World, W.heap[N]? = some (.cells #[.bool a0, .bool a1, .int .i64 a2, .bool true] 87 (0, 0)) → W.cell? ⟨N, 2, none⟩ = some (.int .i64 a2) := fun W h => cell_heap h rfl
                      have rn3 : ∀ W : World, W.heap[N]? = some (.cells #[.bool a0, .bool a1, .int .i64 a2, .bool true] 87 (0, 0)) → W.cell? ⟨N, 3, none⟩ = some (.bool true) := fun W h => cell_heap h rfl
                      have rm0 : ∀ W : World, W.heap[M]? = some (.cells #[.bool a0, .bool a1, .int .i64 a2, .bool true] 87 (0, 0)) → W.cell? ⟨M, 0, none⟩ = some (.bool a0) := fun W h => cell_heap h rfl
                      have rm1 : ∀ W : World, W.heap[M]? = some (.cells #[.bool a0, .bool a1, .int .i64 a2, .bool true] 87 (0, 0)) → W.cell? ⟨M, 1, none⟩ = some (.bool a1) := fun W h => cell_heap h rfl
                      have rm2 : ∀ W : World, W.heap[M]? = some (.cells #[.bool a0, .bool a1, .int .i64 a2, .bool true] 87 (0, 0)) → W.cell? ⟨M, 2, none⟩ = some (.int .i64 a2) := fun W h => cell_heap h rfl
                      have rm3 : ∀ W : World, W.heap[M]? = some (.cells #[.bool a0, .bool a1, .int .i64 a2, .bool true] 87 (0, 0)) → W.cell? ⟨M, 3, none⟩ = some (.bool true) := fun W h => cell_heap h rfl
                      have rs0 : ∀ W : World, W.heap[N + 1]? = some (.cells #[.bool false, .bool s1, .bool s2, .bool s3] 95 (0, 0)) → W.cell? ⟨N + 1, 0, none⟩ = some (.bool false) := fun W h => cell_heap h rfl
                      have rs1 : ∀ W : World, W.heap[N + 1]? = some (.cells #[.bool false, .bool s1, .bool s2, .bool s3] 95 (0, 0)) → W.cell? ⟨N + 1, 1, none⟩ = some (.bool s1) := fun W h => cell_heap h rfl
                      have rs2 : ∀ W : World, W.heap[N + 1]? = some (.cells #[.bool false, .bool s1, .bool s2, .bool s3] 95 (0, 0)) → W.cell? ⟨N + 1, 2, none⟩ = some (.bool s2) := fun W h => cell_heap h rfl
                      have rs3 : ∀ W : World, W.heap[N + 1]? = some (.cells #[.bool false, .bool s1, .bool s2, .bool s3] 95 (0, 0)) → W.cell? ⟨N + 1, 3, none⟩ = some (.bool s3) := fun W h => cell_heap h rfl
                      refine wp_region_held_drew (S := (fun w' => Below w.heap.size w w' ∧ w'.heap[w.heap.size]? = some (.cells #[.slice A n c, .slice B m d, .int .i64 (x 0), .int .i64 (x 1), .int .i64 (x 2), .int .i64 (x 3), .int .i64 (x 4), .int .i64 (x 5)] 35 (0, 0)) ∧ w'.heap[N]? = some (.cells #[.bool a0, .bool a1, .int .i64 a2, .bool true] 87 (0, 0)) ∧ w'.heap[N + 1]? = some (.cells #[.bool false, .bool s1, .bool s2, .bool s3] 95 (0, 0)) ∧ w'.heap[M]? = some (.cells #[.bool a0, .bool a1, .int .i64 a2, .bool true] 87 (0, 0)))) (by kernel_rfl) ?hSz01 (fun hHeld => ?rz01)
                      case hSz01 => exact ⟨drew_below BX.out, drew_heap X0.out, drew_heap X1.out, drew_heap X2.out, drew_heap X3.out⟩
                      show wpAnyH Try.prog .any _ _ _ 65 #[false, false, false, false, false, false, false, false, false, false, false, false, false, false, false, false, false, false, false, false, false, false, false, false, false, false, false, false, false, false, false, false, false, false, false, false, false, false, false, false, false, false, false, false, false, false, false, false, false, false, false, false, false, false, false, false, false, false, false, false, false, false, false, false, false] _ _
                      refine wpAnyH_take (i := 0) (oi := ?oi0z01) (v := ?v0z01) ?hi0z01 (by as_aux_lemma => kernel_rfl) (by as_aux_lemma => kernel_rfl) (by as_aux_lemma => kernel_rfl) ?hQ0z01 (Or.inl ⟨?hw0z01, ?hy0z01⟩) (by assumption) ?r0z01
                      case hi0z01 => (simp only [List.getElem?_toArray, List.getElem?_cons_succ, List.getElem?_cons_zero]; rfl)
                      case hQ0z01 => exact fun _ _ _ h => h
                      case hw0z01 => rfl
                      case hy0z01 => (intro w hSw; (try dsimp only at hSw); go_simp; (try with_reducible rfl))
                      (try simp only [Act.put, List.setIfInBounds_toArray, List.set_cons_zero, List.set_cons_succ])
                      refine wpAnyH_take (i := 1) (oi := ?oi1z01) (v := ?v1z01) ?hi1z01 (by as_aux_lemma => kernel_rfl) (by as_aux_lemma => kernel_rfl) (by as_aux_lemma => kernel_rfl) ?hQ1z01 (Or.inl ⟨?hw1z01, ?hy1z01⟩) (by assumption) ?r1z01
                      case hi1z01 => (simp only [List.getElem?_toArray, List.getElem?_cons_succ, List.getElem?_cons_zero]; rfl)
                      case hQ1z01 => exact fun _ _ _ h => h
                      case hw1z01 => rfl
                      case hy1z01 => (intro w hSw; (try dsimp only at hSw); go_simp; (try with_reducible rfl))
                      (try simp only [Act.put, List.setIfInBounds_toArray, List.set_cons_zero, List.set_cons_succ])
                      refine wpAnyH_take (i := 2) (oi := ?oi2z01) (v := ?v2z01) ?hi2z01 (by as_aux_lemma => kernel_rfl) (by as_aux_lemma => kernel_rfl) (by as_aux_lemma => kernel_rfl) ?hQ2z01 (Or.inl ⟨?hw2z01, ?hy2z01⟩) (by assumption) ?r2z01
                      case hi2z01 => (simp only [List.getElem?_toArray, List.getElem?_cons_succ, List.getElem?_cons_zero]; rfl)
                      case hQ2z01 => exact fun _ _ _ h => h
                      case hw2z01 => rfl
                      case hy2z01 => (intro w hSw; (try dsimp only at hSw); go_simp; (try with_reducible rfl))
                      (try simp only [Act.put, List.setIfInBounds_toArray, List.set_cons_zero, List.set_cons_succ])
                      refine wpAnyH_take (i := 3) (oi := ?oi3z01) (v := ?v3z01) ?hi3z01 (by as_aux_lemma => kernel_rfl) (by as_aux_lemma => kernel_rfl) (by as_aux_lemma => kernel_rfl) ?hQ3z01 (Or.inl ⟨?hw3z01, ?hy3z01⟩) (by assumption) ?r3z01
                      case hi3z01 => (simp only [List.getElem?_toArray, List.getElem?_cons_succ, List.getElem?_cons_zero]; rfl)
                      case hQ3z01 => exact fun _ _ _ h => h
                      case hw3z01 => rfl
                      case hy3z01 => (intro w hSw; (try dsimp only at hSw); go_simp; (try with_reducible rfl))
                      (try simp only [Act.put, List.setIfInBounds_toArray, List.set_cons_zero, List.set_cons_succ])
                      refine wpAnyH_take (i := 4) (oi := ?oi4z01) (v := ?v4z01) ?hi4z01 (by as_aux_lemma => kernel_rfl) (by as_aux_lemma => kernel_rfl) (by as_aux_lemma => kernel_rfl) ?hQ4z01 (Or.inl ⟨?hw4z01, ?hy4z01⟩) (by assumption) ?r4z01
                      case hi4z01 => (simp only [List.getElem?_toArray, List.getElem?_cons_succ, List.getElem?_cons_zero]; rfl)
                      case hQ4z01 => exact fun _ _ _ h => h
                      case hw4z01 => rfl
                      case hy4z01 => (intro w hSw; (try dsimp only at hSw); go_simp; (try with_reducible rfl))
                      (try simp only [Act.put, List.setIfInBounds_toArray, List.set_cons_zero, List.set_cons_succ])
                      refine wpAnyH_take (i := 5) (oi := ?oi5z01) (v := ?v5z01) ?hi5z01 (by as_aux_lemma => kernel_rfl) (by as_aux_lemma => kernel_rfl) (by as_aux_lemma => kernel_rfl) ?hQ5z01 (Or.inl ⟨?hw5z01, ?hy5z01⟩) (by assumption) ?r5z01
                      case hi5z01 => (simp only [List.getElem?_toArray, List.getElem?_cons_succ, List.getElem?_cons_zero]; rfl)
                      case hQ5z01 => exact fun _ _ _ h => h
                      case hw5z01 => rfl
                      case hy5z01 => (intro w hSw; (try dsimp only at hSw); go_simp; (try with_reducible rfl))
                      (try simp only [Act.put, List.setIfInBounds_toArray, List.set_cons_zero, List.set_cons_succ])
                      refine wpAnyH_take (i := 6) (oi := ?oi6z01) (v := ?v6z01) ?hi6z01 (by as_aux_lemma => kernel_rfl) (by as_aux_lemma => kernel_rfl) (by as_aux_lemma => kernel_rfl) ?hQ6z01 (Or.inl ⟨?hw6z01, ?hy6z01⟩) (by assumption) ?r6z01
                      case hi6z01 => (simp only [List.getElem?_toArray, List.getElem?_cons_succ, List.getElem?_cons_zero]; rfl)
                      case hQ6z01 => exact fun _ _ _ h => h
                      case hw6z01 => rfl
                      case hy6z01 => (intro w hSw; (try dsimp only at hSw); go_simp; (try with_reducible rfl))
                      (try simp only [Act.put, List.setIfInBounds_toArray, List.set_cons_zero, List.set_cons_succ])
                      refine wpAnyH_take (i := 7) (oi := ?oi7z01) (v := ?v7z01) ?hi7z01 (by as_aux_lemma => kernel_rfl) (by as_aux_lemma => kernel_rfl) (by as_aux_lemma => kernel_rfl) ?hQ7z01 (Or.inl ⟨?hw7z01, ?hy7z01⟩) (by assumption) ?r7z01
                      case hi7z01 => (simp only [List.getElem?_toArray, List.getElem?_cons_succ, List.getElem?_cons_zero]; rfl)
                      case hQ7z01 => exact fun _ _ _ h => h
                      case hw7z01 => rfl
                      case hy7z01 => (intro w hSw; (try dsimp only at hSw); go_simp; (try with_reducible rfl))
                      (try simp only [Act.put, List.setIfInBounds_toArray, List.set_cons_zero, List.set_cons_succ])
                      as_aux_lemma =>
                      refine wpAnyH_take (i := 8) (oi := ?oi8z01) (v := ?v8z01) ?hi8z01 (by as_aux_lemma => kernel_rfl) (by as_aux_lemma => kernel_rfl) (by as_aux_lemma => kernel_rfl) ?hQ8z01 (Or.inl ⟨?hw8z01, ?hy8z01⟩) (by assumption) ?r8z01
                      case hi8z01 => (simp only [List.getElem?_toArray, List.getElem?_cons_succ, List.getElem?_cons_zero]; rfl)
                      case hQ8z01 => exact fun _ _ _ h => h
                      case hw8z01 => rfl
                      case hy8z01 => (intro w hSw; (try dsimp only at hSw); go_simp; (try with_reducible rfl))
                      (try simp only [Act.put, List.setIfInBounds_toArray, List.set_cons_zero, List.set_cons_succ])
                      refine wpAnyH_take (i := 9) (oi := ?oi9z01) (v := ?v9z01) ?hi9z01 (by as_aux_lemma => kernel_rfl) (by as_aux_lemma => kernel_rfl) (by as_aux_lemma => kernel_rfl) ?hQ9z01 (Or.inl ⟨?hw9z01, ?hy9z01⟩) (by assumption) ?r9z01
                      case hi9z01 => (simp only [List.getElem?_toArray, List.getElem?_cons_succ, List.getElem?_cons_zero]; rfl)
                      case hQ9z01 => exact fun _ _ _ h => h
                      case hw9z01 => rfl
                      case hy9z01 => (intro w hSw; (try dsimp only at hSw); go_simp; (try with_reducible rfl))
                      (try simp only [Act.put, List.setIfInBounds_toArray, List.set_cons_zero, List.set_cons_succ])
                      refine wpAnyH_take (i := 10) (oi := ?oi10z01) (v := undef) ?hi10z01 (by as_aux_lemma => kernel_rfl) (by as_aux_lemma => kernel_rfl) (by as_aux_lemma => kernel_rfl) ?hQ10z01 (Or.inr ⟨?hw10z01, rfl⟩) (by assumption) ?r10z01
                      case hi10z01 => (simp only [List.getElem?_toArray, List.getElem?_cons_succ, List.getElem?_cons_zero]; rfl)
                      case hQ10z01 => exact fun _ _ _ h => h
                      case hw10z01 => rfl
                      (try simp only [Act.put, List.setIfInBounds_toArray, List.set_cons_zero, List.set_cons_succ])
                      refine wpAnyH_take (i := 11) (oi := ?oi11z01) (v := undef) ?hi11z01 (by as_aux_lemma => kernel_rfl) (by as_aux_lemma => kernel_rfl) (by as_aux_lemma => kernel_rfl) ?hQ11z01 (Or.inr ⟨?hw11z01, rfl⟩) (by assumption) ?r11z01
                      case hi11z01 => (simp only [List.getElem?_toArray, List.getElem?_cons_succ, List.getElem?_cons_zero]; rfl)
                      case hQ11z01 => exact fun _ _ _ h => h
                      case hw11z01 => rfl
                      (try simp only [Act.put, List.setIfInBounds_toArray, List.set_cons_zero, List.set_cons_succ])
                      refine wpAnyH_take (i := 12) (oi := ?oi12z01) (v := undef) ?hi12z01 (by as_aux_lemma => kernel_rfl) (by as_aux_lemma => kernel_rfl) (by as_aux_lemma => kernel_rfl) ?hQ12z01 (Or.inr ⟨?hw12z01, rfl⟩) (by assumption) ?r12z01
                      case hi12z01 => (simp only [List.getElem?_toArray, List.getElem?_cons_succ, List.getElem?_cons_zero]; rfl)
                      case hQ12z01 => exact fun _ _ _ h => h
                      case hw12z01 => rfl
                      (try simp only [Act.put, List.setIfInBounds_toArray, List.set_cons_zero, List.set_cons_succ])
                      refine wpAnyH_take (i := 13) (oi := ?oi13z01) (v := undef) ?hi13z01 (by as_aux_lemma => kernel_rfl) (by as_aux_lemma => kernel_rfl) (by as_aux_lemma => kernel_rfl) ?hQ13z01 (Or.inr ⟨?hw13z01, rfl⟩) (by assumption) ?r13z01
                      case hi13z01 => (simp only [List.getElem?_toArray, List.getElem?_cons_succ, List.getElem?_cons_zero]; rfl)
                      case hQ13z01 => exact fun _ _ _ h => h
                      case hw13z01 => rfl
                      (try simp only [Act.put, List.setIfInBounds_toArray, List.set_cons_zero, List.set_cons_succ])
                      refine wpAnyH_take (i := 14) (oi := ?oi14z01) (v := undef) ?hi14z01 (by as_aux_lemma => kernel_rfl) (by as_aux_lemma => kernel_rfl) (by as_aux_lemma => kernel_rfl) ?hQ14z01 (Or.inr ⟨?hw14z01, rfl⟩) (by assumption) ?r14z01
                      case hi14z01 => (simp only [List.getElem?_toArray, List.getElem?_cons_succ, List.getElem?_cons_zero]; rfl)
                      case hQ14z01 => exact fun _ _ _ h => h
                      case hw14z01 => rfl
                      (try simp only [Act.put, List.setIfInBounds_toArray, List.set_cons_zero, List.set_cons_succ])
                      refine wpAnyH_take (i := 15) (oi := ?oi15z01) (v := undef) ?hi15z01 (by as_aux_lemma => kernel_rfl) (by as_aux_lemma => kernel_rfl) (by as_aux_lemma => kernel_rfl) ?hQ15z01 (Or.inr ⟨?hw15z01, rfl⟩) (by assumption) ?r15z01
                      case hi15z01 => (simp only [List.getElem?_toArray, List.getElem?_cons_succ, List.getElem?_cons_zero]; rfl)
                      case hQ15z01 => exact fun _ _ _ h => h
                      case hw15z01 => rfl
                      (try simp only [Act.put, List.setIfInBounds_toArray, List.set_cons_zero, List.set_cons_succ])
                      as_aux_lemma =>
                      refine wpAnyH_take (i := 16) (oi := ?oi16z01) (v := undef) ?hi16z01 (by as_aux_lemma => kernel_rfl) (by as_aux_lemma => kernel_rfl) (by as_aux_lemma => kernel_rfl) ?hQ16z01 (Or.inr ⟨?hw16z01, rfl⟩) (by assumption) ?r16z01
                      case hi16z01 => (simp only [List.getElem?_toArray, List.getElem?_cons_succ, List.getElem?_cons_zero]; rfl)
                      case hQ16z01 => exact fun _ _ _ h => h
                      case hw16z01 => rfl
                      (try simp only [Act.put, List.setIfInBounds_toArray, List.set_cons_zero, List.set_cons_succ])
                      refine wpAnyH_take (i := 17) (oi := ?oi17z01) (v := undef) ?hi17z01 (by as_aux_lemma => kernel_rfl) (by as_aux_lemma => kernel_rfl) (by as_aux_lemma => kernel_rfl) ?hQ17z01 (Or.inr ⟨?hw17z01, rfl⟩) (by assumption) ?r17z01
                      case hi17z01 => (simp only [List.getElem?_toArray, List.getElem?_cons_succ, List.getElem?_cons_zero]; rfl)
                      case hQ17z01 => exact fun _ _ _ h => h
                      case hw17z01 => rfl
                      (try simp only [Act.put, List.setIfInBounds_toArray, List.set_cons_zero, List.set_cons_succ])
                      refine wpAnyH_take (i := 18) (oi := ?oi18z01) (v := undef) ?hi18z01 (by as_aux_lemma => kernel_rfl) (by as_aux_lemma => kernel_rfl) (by as_aux_lemma => kernel_rfl) ?hQ18z01 (Or.inr ⟨?hw18z01, rfl⟩) (by assumption) ?r18z01
                      case hi18z01 => (simp only [List.getElem?_toArray, List.getElem?_cons_succ, List.getElem?_cons_zero]; rfl)
                      case hQ18z01 => exact fun _ _ _ h => h
                      case hw18z01 => rfl
                      (try simp only [Act.put, List.setIfInBounds_toArray, List.set_cons_zero, List.set_cons_succ])
                      refine wpAnyH_take (i := 19) (oi := ?oi19z01) (v := undef) ?hi19z01 (by as_aux_lemma => kernel_rfl) (by as_aux_lemma => kernel_rfl) (by as_aux_lemma => kernel_rfl) ?hQ19z01 (Or.inr ⟨?hw19z01, rfl⟩) (by assumption) ?r19z01
                      case hi19z01 => (simp only [List.getElem?_toArray, List.getElem?_cons_succ, List.getElem?_cons_zero]; rfl)
                      case hQ19z01 => exact fun _ _ _ h => h
                      case hw19z01 => rfl
                      (try simp only [Act.put, List.setIfInBounds_toArray, List.set_cons_zero, List.set_cons_succ])
                      refine wpAnyH_take (i := 20) (oi := ?oi20z01) (v := undef) ?hi20z01 (by as_aux_lemma => kernel_rfl) (by as_aux_lemma => kernel_rfl) (by as_aux_lemma => kernel_rfl) ?hQ20z01 (Or.inr ⟨?hw20z01, rfl⟩) (by assumption) ?r20z01
                      case hi20z01 => (simp only [List.getElem?_toArray, List.getElem?_cons_succ, List.getElem?_cons_zero]; rfl)
                      case hQ20z01 => exact fun _ _ _ h => h
                      case hw20z01 => rfl
                      (try simp only [Act.put, List.setIfInBounds_toArray, List.set_cons_zero, List.set_cons_succ])
                      refine wpAnyH_take (i := 21) (oi := ?oi21z01) (v := undef) ?hi21z01 (by as_aux_lemma => kernel_rfl) (by as_aux_lemma => kernel_rfl) (by as_aux_lemma => kernel_rfl) ?hQ21z01 (Or.inr ⟨?hw21z01, rfl⟩) (by assumption) ?r21z01
                      case hi21z01 => (simp only [List.getElem?_toArray, List.getElem?_cons_succ, List.getElem?_cons_zero]; rfl)
                      case hQ21z01 => exact fun _ _ _ h => h
                      case hw21z01 => rfl
                      (try simp only [Act.put, List.setIfInBounds_toArray, List.set_cons_zero, List.set_cons_succ])
                      refine wpAnyH_take (i := 22) (oi := ?oi22z01) (v := undef) ?hi22z01 (by as_aux_lemma => kernel_rfl) (by as_aux_lemma => kernel_rfl) (by as_aux_lemma => kernel_rfl) ?hQ22z01 (Or.inr ⟨?hw22z01, rfl⟩) (by assumption) ?r22z01
                      case hi22z01 => (simp only [List.getElem?_toArray, List.getElem?_cons_succ, List.getElem?_cons_zero]; rfl)
                      case hQ22z01 => exact fun _ _ _ h => h
                      case hw22z01 => rfl
                      (try simp only [Act.put, List.setIfInBounds_toArray, List.set_cons_zero, List.set_cons_succ])
                      refine wpAnyH_take (i := 23) (oi := ?oi23z01) (v := undef) ?hi23z01 (by as_aux_lemma => kernel_rfl) (by as_aux_lemma => kernel_rfl) (by as_aux_lemma => kernel_rfl) ?hQ23z01 (Or.inr ⟨?hw23z01, rfl⟩) (by assumption) ?r23z01
                      case hi23z01 => (simp only [List.getElem?_toArray, List.getElem?_cons_succ, List.getElem?_cons_zero]; rfl)
                      case hQ23z01 => exact fun _ _ _ h => h
                      case hw23z01 => rfl
                      (try simp only [Act.put, List.setIfInBounds_toArray, List.set_cons_zero, List.set_cons_succ])
                      as_aux_lemma =>
                      refine wpAnyH_take (i := 24) (oi := ?oi24z01) (v := ?v24z01) ?hi24z01 (by as_aux_lemma => kernel_rfl) (by as_aux_lemma => kernel_rfl) (by as_aux_lemma => kernel_rfl) ?hQ24z01 (Or.inl ⟨?hw24z01, ?hy24z01⟩) (by assumption) ?r24z01
                      case hi24z01 => (simp only [List.getElem?_toArray, List.getElem?_cons_succ, List.getElem?_cons_zero]; rfl)
                      case hQ24z01 => exact fun _ _ _ h => h
                      case hw24z01 => rfl
                      case hy24z01 => (intro w hSw; (try dsimp only at hSw); go_simp; (try with_reducible rfl))
                      (try simp only [Act.put, List.setIfInBounds_toArray, List.set_cons_zero, List.set_cons_succ])
                      refine wpAnyH_take (i := 25) (oi := ?oi25z01) (v := ?v25z01) ?hi25z01 (by as_aux_lemma => kernel_rfl) (by as_aux_lemma => kernel_rfl) (by as_aux_lemma => kernel_rfl) ?hQ25z01 (Or.inl ⟨?hw25z01, ?hy25z01⟩) (by assumption) ?r25z01
                      case hi25z01 => (simp only [List.getElem?_toArray, List.getElem?_cons_succ, List.getElem?_cons_zero]; rfl)
                      case hQ25z01 => exact fun _ _ _ h => h
                      case hw25z01 => rfl
                      case hy25z01 => (intro w hSw; (try dsimp only at hSw); go_simp; (try with_reducible rfl))
                      (try simp only [Act.put, List.setIfInBounds_toArray, List.set_cons_zero, List.set_cons_succ])
                      refine wpAnyH_take (i := 26) (oi := ?oi26z01) (v := ?v26z01) ?hi26z01 (by as_aux_lemma => kernel_rfl) (by as_aux_lemma => kernel_rfl) (by as_aux_lemma => kernel_rfl) ?hQ26z01 (Or.inl ⟨?hw26z01, ?hy26z01⟩) (by assumption) ?r26z01
                      case hi26z01 => (simp only [List.getElem?_toArray, List.getElem?_cons_succ, List.getElem?_cons_zero]; rfl)
                      case hQ26z01 => exact fun _ _ _ h => h
                      case hw26z01 => rfl
                      case hy26z01 => (intro w hSw; (try dsimp only at hSw); go_simp; (try with_reducible rfl))
                      (try simp only [Act.put, List.setIfInBounds_toArray, List.set_cons_zero, List.set_cons_succ])
                      refine wpAnyH_take (i := 27) (oi := ?oi27z01) (v := ?v27z01) ?hi27z01 (by as_aux_lemma => kernel_rfl) (by as_aux_lemma => kernel_rfl) (by as_aux_lemma => kernel_rfl) ?hQ27z01 (Or.inl ⟨?hw27z01, ?hy27z01⟩) (by assumption) ?r27z01
                      case hi27z01 => (simp only [List.getElem?_toArray, List.getElem?_cons_succ, List.getElem?_cons_zero]; rfl)
                      case hQ27z01 => exact fun _ _ _ h => h
                      case hw27z01 => rfl
                      case hy27z01 => (intro w hSw; (try dsimp only at hSw); go_simp; (try with_reducible rfl))
                      (try simp only [Act.put, List.setIfInBounds_toArray, List.set_cons_zero, List.set_cons_succ])
                      refine wpAnyH_take (i := 28) (oi := ?oi28z01) (v := ?v28z01) ?hi28z01 (by as_aux_lemma => kernel_rfl) (by as_aux_lemma => kernel_rfl) (by as_aux_lemma => kernel_rfl) ?hQ28z01 (Or.inl ⟨?hw28z01, ?hy28z01⟩) (by assumption) ?r28z01
                      case hi28z01 => (simp only [List.getElem?_toArray, List.getElem?_cons_succ, List.getElem?_cons_zero]; rfl)
                      case hQ28z01 => exact fun _ _ _ h => h
                      case hw28z01 => rfl
                      case hy28z01 => (intro w hSw; (try dsimp only at hSw); go_simp; (try with_reducible rfl))
                      (try simp only [Act.put, List.setIfInBounds_toArray, List.set_cons_zero, List.set_cons_succ])
                      refine wpAnyH_take (i := 29) (oi := ?oi29z01) (v := ?v29z01) ?hi29z01 (by as_aux_lemma => kernel_rfl) (by as_aux_lemma => kernel_rfl) (by as_aux_lemma => kernel_rfl) ?hQ29z01 (Or.inl ⟨?hw29z01, ?hy29z01⟩) (by assumption) ?r29z01
                      case hi29z01 => (simp only [List.getElem?_toArray, List.getElem?_cons_succ, List.getElem?_cons_zero]; rfl)
                      case hQ29z01 => exact fun _ _ _ h => h
                      case hw29z01 => rfl
                      case hy29z01 => (intro w hSw; (try dsimp only at hSw); go_simp; (try with_reducible rfl))
                      (try simp only [Act.put, List.setIfInBounds_toArray, List.set_cons_zero, List.set_cons_succ])
                      refine wpAnyH_take (i := 30) (oi := ?oi30z01) (v := ?v30z01) ?hi30z01 (by as_aux_lemma => kernel_rfl) (by as_aux_lemma => kernel_rfl) (by as_aux_lemma => kernel_rfl) ?hQ30z01 (Or.inl ⟨?hw30z01, ?hy30z01⟩) (by assumption) ?r30z01
                      case hi30z01 => (simp only [List.getElem?_toArray, List.getElem?_cons_succ, List.getElem?_cons_zero]; rfl)
                      case hQ30z01 => exact fun _ _ _ h => h
                      case hw30z01 => rfl
                      case hy30z01 => (intro w hSw; (try dsimp only at hSw); go_simp; (try with_reducible rfl))
                      (try simp only [Act.put, List.setIfInBounds_toArray, List.set_cons_zero, List.set_cons_succ])
                      refine wpAnyH_take (i := 31) (oi := ?oi31z01) (v := ?v31z01) ?hi31z01 (by as_aux_lemma => kernel_rfl) (by as_aux_lemma => kernel_rfl) (by as_aux_lemma => kernel_rfl) ?hQ31z01 (Or.inl ⟨?hw31z01, ?hy31z01⟩) (by assumption) ?r31z01
                      case hi31z01 => (simp only [List.getElem?_toArray, List.getElem?_cons_succ, List.getElem?_cons_zero]; rfl)
                      case hQ31z01 => exact fun _ _ _ h => h
                      case hw31z01 => rfl
                      case hy31z01 => (intro w hSw; (try dsimp only at hSw); go_simp; (try with_reducible rfl))
                      (try simp only [Act.put, List.setIfInBounds_toArray, List.set_cons_zero, List.set_cons_succ])
                      as_aux_lemma =>
                      refine wpAnyH_take (i := 32) (oi := ?oi32z01) (v := ?v32z01) ?hi32z01 (by as_aux_lemma => kernel_rfl) (by as_aux_lemma => kernel_rfl) (by as_aux_lemma => kernel_rfl) ?hQ32z01 (Or.inl ⟨?hw32z01, ?hy32z01⟩) (by assumption) ?r32z01
                      case hi32z01 => (simp only [List.getElem?_toArray, List.getElem?_cons_succ, List.getElem?_cons_zero]; rfl)
                      case hQ32z01 => exact fun _ _ _ h => h
                      case hw32z01 => rfl
                      case hy32z01 => (intro w hSw; (try dsimp only at hSw); go_simp; (try with_reducible rfl))
                      (try simp only [Act.put, List.setIfInBounds_toArray, List.set_cons_zero, List.set_cons_succ])
                      refine wpAnyH_take (i := 33) (oi := ?oi33z01) (v := ?v33z01) ?hi33z01 (by as_aux_lemma => kernel_rfl) (by as_aux_lemma => kernel_rfl) (by as_aux_lemma => kernel_rfl) ?hQ33z01 (Or.inl ⟨?hw33z01, ?hy33z01⟩) (by assumption) ?r33z01
                      case hi33z01 => (simp only [List.getElem?_toArray, List.getElem?_cons_succ, List.getElem?_cons_zero]; rfl)
                      case hQ33z01 => exact fun _ _ _ h => h
                      case hw33z01 => rfl
                      case hy33z01 => (intro w hSw; (try dsimp only at hSw); go_simp; (try with_reducible rfl))
                      (try simp only [Act.put, List.setIfInBounds_toArray, List.set_cons_zero, List.set_cons_succ])
                      refine wpAnyH_take (i := 34) (oi := ?oi34z01) (v := ?v34z01) ?hi34z01 (by as_aux_lemma => kernel_rfl) (by as_aux_lemma => kernel_rfl) (by as_aux_lemma => kernel_rfl) ?hQ34z01 (Or.inl ⟨?hw34z01, ?hy34z01⟩) (by assumption) ?r34z01
                      case hi34z01 => (simp only [List.getElem?_toArray, List.getElem?_cons_succ, List.getElem?_cons_zero]; rfl)
                      case hQ34z01 => exact fun _ _ _ h => h
                      case hw34z01 => rfl
                      case hy34z01 => (intro w hSw; (try dsimp only at hSw); go_simp; (try with_reducible rfl))
                      (try simp only [Act.put, List.setIfInBounds_toArray, List.set_cons_zero, List.set_cons_succ])
                      refine wpAnyH_take (i := 35) (oi := ?oi35z01) (v := ?v35z01) ?hi35z01 (by as_aux_lemma => kernel_rfl) (by as_aux_lemma => kernel_rfl) (by as_aux_lemma => kernel_rfl) ?hQ35z01 (Or.inl ⟨?hw35z01, ?hy35z01⟩) (by assumption) ?r35z01
                      case hi35z01 => (simp only [List.getElem?_toArray, List.getElem?_cons_succ, List.getElem?_cons_zero]; rfl)
                      case hQ35z01 => exact fun _ _ _ h => h
                      case hw35z01 => rfl
                      case hy35z01 => (intro w hSw; (try dsimp only at hSw); go_simp; (try with_reducible rfl))
                      (try simp only [Act.put, List.setIfInBounds_toArray, List.set_cons_zero, List.set_cons_succ])
                      refine wpAnyH_take (i := 36) (oi := ?oi36z01) (v := ?v36z01) ?hi36z01 (by as_aux_lemma => kernel_rfl) (by as_aux_lemma => kernel_rfl) (by as_aux_lemma => kernel_rfl) ?hQ36z01 (Or.inl ⟨?hw36z01, ?hy36z01⟩) (by assumption) ?r36z01
                      case hi36z01 => (simp only [List.getElem?_toArray, List.getElem?_cons_succ, List.getElem?_cons_zero]; rfl)
                      case hQ36z01 => exact fun _ _ _ h => h
                      case hw36z01 => rfl
                      case hy36z01 => (intro w hSw; (try dsimp only at hSw); go_simp; (try with_reducible rfl))
                      (try simp only [Act.put, List.setIfInBounds_toArray, List.set_cons_zero, List.set_cons_succ])
                      refine wpAnyH_take (i := 37) (oi := ?oi37z01) (v := ?v37z01) ?hi37z01 (by as_aux_lemma => kernel_rfl) (by as_aux_lemma => kernel_rfl) (by as_aux_lemma => kernel_rfl) ?hQ37z01 (Or.inl ⟨?hw37z01, ?hy37z01⟩) (by assumption) ?r37z01
                      case hi37z01 => (simp only [List.getElem?_toArray, List.getElem?_cons_succ, List.getElem?_cons_zero]; rfl)
                      case hQ37z01 => exact fun _ _ _ h => h
                      case hw37z01 => rfl
                      case hy37z01 => (intro w hSw; (try dsimp only at hSw); go_simp; (try with_reducible rfl))
                      (try simp only [Act.put, List.setIfInBounds_toArray, List.set_cons_zero, List.set_cons_succ])
                      refine wpAnyH_take (i := 38) (oi := ?oi38z01) (v := ?v38z01) ?hi38z01 (by as_aux_lemma => kernel_rfl) (by as_aux_lemma => kernel_rfl) (by as_aux_lemma => kernel_rfl) ?hQ38z01 (Or.inl ⟨?hw38z01, ?hy38z01⟩) (by assumption) ?r38z01
                      case hi38z01 => (simp only [List.getElem?_toArray, List.getElem?_cons_succ, List.getElem?_cons_zero]; rfl)
                      case hQ38z01 => exact fun _ _ _ h => h
                      case hw38z01 => rfl
                      case hy38z01 => (intro w hSw; (try dsimp only at hSw); go_simp; (try with_reducible rfl))
                      (try simp only [Act.put, List.setIfInBounds_toArray, List.set_cons_zero, List.set_cons_succ])
                      refine wpAnyH_take (i := 39) (oi := ?oi39z01) (v := undef) ?hi39z01 (by as_aux_lemma => kernel_rfl) (by as_aux_lemma => kernel_rfl) (by as_aux_lemma => kernel_rfl) ?hQ39z01 (Or.inr ⟨?hw39z01, rfl⟩) (by assumption) ?r39z01
                      case hi39z01 => (simp only [List.getElem?_toArray, List.getElem?_cons_succ, List.getElem?_cons_zero]; rfl)
                      case hQ39z01 => exact fun _ _ _ h => h
                      case hw39z01 => rfl
                      (try simp only [Act.put, List.setIfInBounds_toArray, List.set_cons_zero, List.set_cons_succ])
                      as_aux_lemma =>
                      refine wpAnyH_take (i := 40) (oi := ?oi40z01) (v := undef) ?hi40z01 (by as_aux_lemma => kernel_rfl) (by as_aux_lemma => kernel_rfl) (by as_aux_lemma => kernel_rfl) ?hQ40z01 (Or.inr ⟨?hw40z01, rfl⟩) (by assumption) ?r40z01
                      case hi40z01 => (simp only [List.getElem?_toArray, List.getElem?_cons_succ, List.getElem?_cons_zero]; rfl)
                      case hQ40z01 => exact fun _ _ _ h => h
                      case hw40z01 => rfl
                      (try simp only [Act.put, List.setIfInBounds_toArray, List.set_cons_zero, List.set_cons_succ])
                      refine wpAnyH_take (i := 41) (oi := ?oi41z01) (v := ?v41z01) ?hi41z01 (by as_aux_lemma => kernel_rfl) (by as_aux_lemma => kernel_rfl) (by as_aux_lemma => kernel_rfl) ?hQ41z01 (Or.inl ⟨?hw41z01, ?hy41z01⟩) (by assumption) ?r41z01
                      case hi41z01 => (simp only [List.getElem?_toArray, List.getElem?_cons_succ, List.getElem?_cons_zero]; rfl)
                      case hQ41z01 => exact fun _ _ _ h => h
                      case hw41z01 => rfl
                      case hy41z01 => (intro w hSw; (try dsimp only at hSw); go_simp; (try with_reducible rfl))
                      (try simp only [Act.put, List.setIfInBounds_toArray, List.set_cons_zero, List.set_cons_succ])
                      refine wpAnyH_take (i := 42) (oi := ?oi42z01) (v := ?v42z01) ?hi42z01 (by as_aux_lemma => kernel_rfl) (by as_aux_lemma => kernel_rfl) (by as_aux_lemma => kernel_rfl) ?hQ42z01 (Or.inl ⟨?hw42z01, ?hy42z01⟩) (by assumption) ?r42z01
                      case hi42z01 => (simp only [List.getElem?_toArray, List.getElem?_cons_succ, List.getElem?_cons_zero]; rfl)
                      case hQ42z01 => exact fun _ _ _ h => h
                      case hw42z01 => rfl
                      case hy42z01 => (intro w hSw; (try dsimp only at hSw); go_simp; (try with_reducible rfl))
                      (try simp only [Act.put, List.setIfInBounds_toArray, List.set_cons_zero, List.set_cons_succ])
                      refine wpAnyH_take (i := 43) (oi := ?oi43z01) (v := undef) ?hi43z01 (by as_aux_lemma => kernel_rfl) (by as_aux_lemma => kernel_rfl) (by as_aux_lemma => kernel_rfl) ?hQ43z01 (Or.inr ⟨?hw43z01, rfl⟩) (by assumption) ?r43z01
                      case hi43z01 => (simp only [List.getElem?_toArray, List.getElem?_cons_succ, List.getElem?_cons_zero]; rfl)
                      case hQ43z01 => exact fun _ _ _ h => h
                      case hw43z01 => rfl
                      (try simp only [Act.put, List.setIfInBounds_toArray, List.set_cons_zero, List.set_cons_succ])
                      refine wpAnyH_take (i := 44) (oi := ?oi44z01) (v := undef) ?hi44z01 (by as_aux_lemma => kernel_rfl) (by as_aux_lemma => kernel_rfl) (by as_aux_lemma => kernel_rfl) ?hQ44z01 (Or.inr ⟨?hw44z01, rfl⟩) (by assumption) ?r44z01
                      case hi44z01 => (simp only [List.getElem?_toArray, List.getElem?_cons_succ, List.getElem?_cons_zero]; rfl)
                      case hQ44z01 => exact fun _ _ _ h => h
                      case hw44z01 => rfl
                      (try simp only [Act.put, List.setIfInBounds_toArray, List.set_cons_zero, List.set_cons_succ])
                      refine wpAnyH_take (i := 45) (oi := ?oi45z01) (v := undef) ?hi45z01 (by as_aux_lemma => kernel_rfl) (by as_aux_lemma => kernel_rfl) (by as_aux_lemma => kernel_rfl) ?hQ45z01 (Or.inr ⟨?hw45z01, rfl⟩) (by assumption) ?r45z01
                      case hi45z01 => (simp only [List.getElem?_toArray, List.getElem?_cons_succ, List.getElem?_cons_zero]; rfl)
                      case hQ45z01 => exact fun _ _ _ h => h
                      case hw45z01 => rfl
                      (try simp only [Act.put, List.setIfInBounds_toArray, List.set_cons_zero, List.set_cons_succ])
                      refine wpAnyH_take (i := 46) (oi := ?oi46z01) (v := undef) ?hi46z01 (by as_aux_lemma => kernel_rfl) (by as_aux_lemma => kernel_rfl) (by as_aux_lemma => kernel_rfl) ?hQ46z01 (Or.inr ⟨?hw46z01, rfl⟩) (by assumption) ?r46z01
                      case hi46z01 => (simp only [List.getElem?_toArray, List.getElem?_cons_succ, List.getElem?_cons_zero]; rfl)
                      case hQ46z01 => exact fun _ _ _ h => h
                      case hw46z01 => rfl
                      (try simp only [Act.put, List.setIfInBounds_toArray, List.set_cons_zero, List.set_cons_succ])
                      refine wpAnyH_take (i := 47) (oi := ?oi47z01) (v := undef) ?hi47z01 (by as_aux_lemma => kernel_rfl) (by as_aux_lemma => kernel_rfl) (by as_aux_lemma => kernel_rfl) ?hQ47z01 (Or.inr ⟨?hw47z01, rfl⟩) (by assumption) ?r47z01
                      case hi47z01 => (simp only [List.getElem?_toArray, List.getElem?_cons_succ, List.getElem?_cons_zero]; rfl)
                      case hQ47z01 => exact fun _ _ _ h => h
                      case hw47z01 => rfl
                      (try simp only [Act.put, List.setIfInBounds_toArray, List.set_cons_zero, List.set_cons_succ])
                      as_aux_lemma =>
                      refine wpAnyH_take (i := 48) (oi := ?oi48z01) (v := undef) ?hi48z01 (by as_aux_lemma => kernel_rfl) (by as_aux_lemma => kernel_rfl) (by as_aux_lemma => kernel_rfl) ?hQ48z01 (Or.inr ⟨?hw48z01, rfl⟩) (by assumption) ?r48z01
                      case hi48z01 => (simp only [List.getElem?_toArray, List.getElem?_cons_succ, List.getElem?_cons_zero]; rfl)
                      case hQ48z01 => exact fun _ _ _ h => h
                      case hw48z01 => rfl
                      (try simp only [Act.put, List.setIfInBounds_toArray, List.set_cons_zero, List.set_cons_succ])
                      refine wpAnyH_take (i := 49) (oi := ?oi49z01) (v := undef) ?hi49z01 (by as_aux_lemma => kernel_rfl) (by as_aux_lemma => kernel_rfl) (by as_aux_lemma => kernel_rfl) ?hQ49z01 (Or.inr ⟨?hw49z01, rfl⟩) (by assumption) ?r49z01
                      case hi49z01 => (simp only [List.getElem?_toArray, List.getElem?_cons_succ, List.getElem?_cons_zero]; rfl)
                      case hQ49z01 => exact fun _ _ _ h => h
                      case hw49z01 => rfl
                      (try simp only [Act.put, List.setIfInBounds_toArray, List.set_cons_zero, List.set_cons_succ])
                      refine wpAnyH_take (i := 50) (oi := ?oi50z01) (v := undef) ?hi50z01 (by as_aux_lemma => kernel_rfl) (by as_aux_lemma => kernel_rfl) (by as_aux_lemma => kernel_rfl) ?hQ50z01 (Or.inr ⟨?hw50z01, rfl⟩) (by assumption) ?r50z01
                      case hi50z01 => (simp only [List.getElem?_toArray, List.getElem?_cons_succ, List.getElem?_cons_zero]; rfl)
                      case hQ50z01 => exact fun _ _ _ h => h
                      case hw50z01 => rfl
                      (try simp only [Act.put, List.setIfInBounds_toArray, List.set_cons_zero, List.set_cons_succ])
                      refine wpAnyH_take (i := 51) (oi := ?oi51z01) (v := ?v51z01) ?hi51z01 (by as_aux_lemma => kernel_rfl) (by as_aux_lemma => kernel_rfl) (by as_aux_lemma => kernel_rfl) ?hQ51z01 (Or.inl ⟨?hw51z01, ?hy51z01⟩) (by assumption) ?r51z01
                      case hi51z01 => (simp only [List.getElem?_toArray, List.getElem?_cons_succ, List.getElem?_cons_zero]; rfl)
                      case hQ51z01 => exact fun _ _ _ h => h
                      case hw51z01 => rfl
                      case hy51z01 => (intro w hSw; (try dsimp only at hSw); go_simp; (try with_reducible rfl))
                      (try simp only [Act.put, List.setIfInBounds_toArray, List.set_cons_zero, List.set_cons_succ])
                      refine wpAnyH_take (i := 52) (oi := ?oi52z01) (v := ?v52z01) ?hi52z01 (by as_aux_lemma => kernel_rfl) (by as_aux_lemma => kernel_rfl) (by as_aux_lemma => kernel_rfl) ?hQ52z01 (Or.inl ⟨?hw52z01, ?hy52z01⟩) (by assumption) ?r52z01
                      case hi52z01 => (simp only [List.getElem?_toArray, List.getElem?_cons_succ, List.getElem?_cons_zero]; rfl)
                      case hQ52z01 => exact fun _ _ _ h => h
                      case hw52z01 => rfl
                      case hy52z01 => (intro w hSw; (try dsimp only at hSw); go_simp; (try with_reducible rfl))
                      (try simp only [Act.put, List.setIfInBounds_toArray, List.set_cons_zero, List.set_cons_succ])
                      refine wpAnyH_take (i := 53) (oi := ?oi53z01) (v := ?v53z01) ?hi53z01 (by as_aux_lemma => kernel_rfl) (by as_aux_lemma => kernel_rfl) (by as_aux_lemma => kernel_rfl) ?hQ53z01 (Or.inl ⟨?hw53z01, ?hy53z01⟩) (by assumption) ?r53z01
                      case hi53z01 => (simp only [List.getElem?_toArray, List.getElem?_cons_succ, List.getElem?_cons_zero]; rfl)
                      case hQ53z01 => exact fun _ _ _ h => h
                      case hw53z01 => rfl
                      case hy53z01 => (intro w hSw; (try dsimp only at hSw); go_simp; (try with_reducible rfl))
                      (try simp only [Act.put, List.setIfInBounds_toArray, List.set_cons_zero, List.set_cons_succ])
                      refine wpAnyH_take (i := 54) (oi := ?oi54z01) (v := ?v54z01) ?hi54z01 (by as_aux_lemma => kernel_rfl) (by as_aux_lemma => kernel_rfl) (by as_aux_lemma => kernel_rfl) ?hQ54z01 (Or.inl ⟨?hw54z01, ?hy54z01⟩) (by assumption) ?r54z01
                      case hi54z01 => (simp only [List.getElem?_toArray, List.getElem?_cons_succ, List.getElem?_cons_zero]; rfl)
                      case hQ54z01 => exact fun _ _ _ h => h
                      case hw54z01 => rfl
                      case hy54z01 => (intro w hSw; (try dsimp only at hSw); go_simp; (try with_reducible rfl))
                      (try simp only [Act.put, List.setIfInBounds_toArray, List.set_cons_zero, List.set_cons_succ])
                      refine wpAnyH_take (i := 55) (oi := ?oi55z01) (v := ?v55z01) ?hi55z01 (by as_aux_lemma => kernel_rfl) (by as_aux_lemma => kernel_rfl) (by as_aux_lemma => kernel_rfl) ?hQ55z01 (Or.inl ⟨?hw55z01, ?hy55z01⟩) (by assumption) ?r55z01
                      case hi55z01 => (simp only [List.getElem?_toArray, List.getElem?_cons_succ, List.getElem?_cons_zero]; rfl)
                      case hQ55z01 => exact fun _ _ _ h => h
                      case hw55z01 => rfl
                      case hy55z01 => (intro w hSw; (try dsimp only at hSw); go_simp; (try with_reducible rfl))
                      (try simp only [Act.put, List.setIfInBounds_toArray, List.set_cons_zero, List.set_cons_succ])
                      as_aux_lemma =>
                      refine wpAnyH_take (i := 56) (oi := ?oi56z01) (v := ?v56z01) ?hi56z01 (by as_aux_lemma => kernel_rfl) (by as_aux_lemma => kernel_rfl) (by as_aux_lemma => kernel_rfl) ?hQ56z01 (Or.inl ⟨?hw56z01, ?hy56z01⟩) (by assumption) ?r56z01
                      case hi56z01 => (simp only [List.getElem?_toArray, List.getElem?_cons_succ, List.getElem?_cons_zero]; rfl)
                      case hQ56z01 => exact fun _ _ _ h => h
                      case hw56z01 => rfl
                      case hy56z01 => (intro w hSw; (try dsimp only at hSw); go_simp; (try with_reducible rfl))
                      (try simp only [Act.put, List.setIfInBounds_toArray, List.set_cons_zero, List.set_cons_succ])
                      refine wpAnyH_take (i := 57) (oi := ?oi57z01) (v := ?v57z01) ?hi57z01 (by as_aux_lemma => kernel_rfl) (by as_aux_lemma => kernel_rfl) (by as_aux_lemma => kernel_rfl) ?hQ57z01 (Or.inl ⟨?hw57z01, ?hy57z01⟩) (by assumption) ?r57z01
                      case hi57z01 => (simp only [List.getElem?_toArray, List.getElem?_cons_succ, List.getElem?_cons_zero]; rfl)
                      case hQ57z01 => exact fun _ _ _ h => h
                      case hw57z01 => rfl
                      case hy57z01 => (intro w hSw; (try dsimp only at hSw); go_simp; (try with_reducible rfl))
                      (try simp only [Act.put, List.setIfInBounds_toArray, List.set_cons_zero, List.set_cons_succ])
                      refine wpAnyH_take (i := 58) (oi := ?oi58z01) (v := ?v58z01) ?hi58z01 (by as_aux_lemma => kernel_rfl) (by as_aux_lemma => kernel_rfl) (by as_aux_lemma => kernel_rfl) ?hQ58z01 (Or.inl ⟨?hw58z01, ?hy58z01⟩) (by assumption) ?r58z01
                      case hi58z01 => (simp only [List.getElem?_toArray, List.getElem?_cons_succ, List.getElem?_cons_zero]; rfl)
                      case hQ58z01 => exact fun _ _ _ h => h
                      case hw58z01 => rfl
                      case hy58z01 => (intro w hSw; (try dsimp only at hSw); go_simp; (try with_reducible rfl))
                      (try simp only [Act.put, List.setIfInBounds_toArray, List.set_cons_zero, List.set_cons_succ])
                      refine wpAnyH_take (i := 59) (oi := ?oi59z01) (v := ?v59z01) ?hi59z01 (by as_aux_lemma => kernel_rfl) (by as_aux_lemma => kernel_rfl) (by as_aux_lemma => kernel_rfl) ?hQ59z01 (Or.inl ⟨?hw59z01, ?hy59z01⟩) (by assumption) ?r59z01
                      case hi59z01 => (simp only [List.getElem?_toArray, List.getElem?_cons_succ, List.getElem?_cons_zero]; rfl)
                      case hQ59z01 => exact fun _ _ _ h => h
                      case hw59z01 => rfl
                      case hy59z01 => (intro w hSw; (try dsimp only at hSw); go_simp; (try with_reducible rfl))
                      (try simp only [Act.put, List.setIfInBounds_toArray, List.set_cons_zero, List.set_cons_succ])
                      refine wpAnyH_take (i := 60) (oi := ?oi60z01) (v := ?v60z01) ?hi60z01 (by as_aux_lemma => kernel_rfl) (by as_aux_lemma => kernel_rfl) (by as_aux_lemma => kernel_rfl) ?hQ60z01 (Or.inl ⟨?hw60z01, ?hy60z01⟩) (by assumption) ?r60z01
                      case hi60z01 => (simp only [List.getElem?_toArray, List.getElem?_cons_succ, List.getElem?_cons_zero]; rfl)
                      case hQ60z01 => exact fun _ _ _ h => h
                      case hw60z01 => rfl
                      case hy60z01 => (intro w hSw; (try dsimp only at hSw); go_simp; (try with_reducible rfl))
                      (try simp only [Act.put, List.setIfInBounds_toArray, List.set_cons_zero, List.set_cons_succ])
                      refine wpAnyH_take (i := 61) (oi := ?oi61z01) (v := ?v61z01) ?hi61z01 (by as_aux_lemma => kernel_rfl) (by as_aux_lemma => kernel_rfl) (by as_aux_lemma => kernel_rfl) ?hQ61z01 (Or.inl ⟨?hw61z01, ?hy61z01⟩) (by assumption) ?r61z01
                      case hi61z01 => (simp only [List.getElem?_toArray, List.getElem?_cons_succ, List.getElem?_cons_zero]; rfl)
                      case hQ61z01 => exact fun _ _ _ h => h
                      case hw61z01 => rfl
                      case hy61z01 => (intro w hSw; (try dsimp only at hSw); go_simp; (try with_reducible rfl))
                      (try simp only [Act.put, List.setIfInBounds_toArray, List.set_cons_zero, List.set_cons_succ])
                      refine wpAnyH_take (i := 62) (oi := ?oi62z01) (v := ?v62z01) ?hi62z01 (by as_aux_lemma => kernel_rfl) (by as_aux_lemma => kernel_rfl) (by as_aux_lemma => kernel_rfl) ?hQ62z01 (Or.inl ⟨?hw62z01, ?hy62z01⟩) (by assumption) ?r62z01
                      case hi62z01 => (simp only [List.getElem?_toArray, List.getElem?_cons_succ, List.getElem?_cons_zero]; rfl)
                      case hQ62z01 => exact fun _ _ _ h => h
                      case hw62z01 => rfl
                      case hy62z01 => (intro w hSw; (try dsimp only at hSw); go_simp; (try with_reducible rfl))
                      (try simp only [Act.put, List.setIfInBounds_toArray, List.set_cons_zero, List.set_cons_succ])
                      refine wpAnyH_take (i := 63) (oi := ?oi63z01) (v := ?v63z01) ?hi63z01 (by as_aux_lemma => kernel_rfl) (by as_aux_lemma => kernel_rfl) (by as_aux_lemma => kernel_rfl) ?hQ63z01 (Or.inl ⟨?hw63z01, ?hy63z01⟩) (by assumption) ?r63z01
                      case hi63z01 => (simp only [List.getElem?_toArray, List.getElem?_cons_succ, List.getElem?_cons_zero]; rfl)
                      case hQ63z01 => exact fun _ _ _ h => h
                      case hw63z01 => rfl
                      case hy63z01 => (intro w hSw; (try dsimp only at hSw); go_simp; (try with_reducible rfl))
                      (try simp only [Act.put, List.setIfInBounds_toArray, List.set_cons_zero, List.set_cons_succ])
                      as_aux_lemma =>
                      refine wpAnyH_take (i := 64) (oi := ?oi64z01) (v := ?v64z01) ?hi64z01 (by as_aux_lemma => kernel_rfl) (by as_aux_lemma => kernel_rfl) (by as_aux_lemma => kernel_rfl) ?hQ64z01 (Or.inl ⟨?hw64z01, ?hy64z01⟩) (by assumption) ?r64z01
                      case hi64z01 => (simp only [List.getElem?_toArray, List.getElem?_cons_succ, List.getElem?_cons_zero]; rfl)
                      case hQ64z01 => exact fun _ _ _ h => h
                      case hw64z01 => rfl
                      case hy64z01 => (intro w hSw; (try dsimp only at hSw); go_simp; (try with_reducible rfl))
                      (try simp only [Act.put, List.setIfInBounds_toArray, List.set_cons_zero, List.set_cons_succ])
                      refine wpAnyH_done (by as_aux_lemma => kernel_rfl) ?_ _
                      generalize wc.drew = w4 at hHeld ⊢
                      obtain ⟨Q0, Q1, Q2, Q3, Q5⟩ := hHeld
                      clear ra0 ra1 ra2 ra3 ra4 ra5 ra6 ra7 rn0 rn1 rn2 rn3 rm0 rm1 rm2 rm3 rs0 rs1 rs2 rs3 heq85
                      have cn0 := cell_heap (j := 0) Q2 rfl
                      have cn1 := cell_heap (j := 1) Q2 rfl
                      have cn2 := cell_heap (j := 2) Q2 rfl
                      have cn3 := cell_heap (j := 3) Q2 rfl
                      have cm0 := cell_heap (j := 0) Q5 rfl
                      have cm1 := cell_heap (j := 1) Q5 rfl
                      have cm2 := cell_heap (j := 2) Q5 rfl
                      have cm3 := cell_heap (j := 3) Q5 rfl
                      have fn0 := frozen_pa Q2 0
                      have fn1 := frozen_pa Q2 1
                      have fn2 := frozen_pa Q2 2
                      have fn3 := frozen_pa Q2 3
                      have R0 := Lib.hid Q0
                      have R1 := Lib.hid Q1
                      have R2 := Lib.hid Q2
                      have R3 := Lib.hid Q3
                      have R5 := Lib.hid Q5
                      clear Q0 Q1 Q2 Q3 Q5
                      have e1 : ¬ M = N := by have := HM.out; omega
                      have e2 : ¬ N = M := by have := HM.out; omega
                      have e3 : ¬ M = N + 1 := by have := HM.out; omega
                      have e4 : ¬ N + 1 = M := by have := HM.out; omega
                      have hn0 : w.heap.size ≤ N := by have := HN.out; omega
                      have hn1 : w.heap.size ≤ N + 1 := by have := HN.out; omega
                      have hn2 : w.heap.size ≠ N := by have := HN.out; omega
                      have hn3 : w.heap.size ≠ N + 1 := by have := HN.out; omega
                      go_wp2_with fail
                      go_roundg (60 - (k + 1))
                      case measure => have := HK.out.1; omega
                      case rel =>
                        refine ⟨k + 1, tick + dt, a0, a1, true, s1, s2, s3, (a2), by omega, by go_num, rfl, Lib.hid ⟨by omega, HT2'.out.1, HT2'.out.2⟩, Lib.hid ⟨HS.out.1, HS.out.2.1, fun _ => rfl⟩, ?_, ?_, ?_, ?_⟩
                        · exact Lib.hid (put4_below R0.out hn0 _ _ _ _)
                        · exact Lib.hid (put4_other R1.out hn2 _ _ _ _)
                        · exact Lib.hid (put4_heap R2.out _ _ _ _)
                        · exact Lib.hid (put4_other R3.out (by omega) _ _ _ _)
                  · as_aux_lemma =>
                      obtain rfl : s3 = false := by cases hs : s3; rfl; exact absurd (HS.out.2.2 hs) (by simp)
                      obtain rfl : s1 = false := by cases hs : s1; rfl; exact absurd (HS.out.1 hs) (by simp)
                      have tl := HTl.out
                      unfold TailOk at tl
                      have xlo : 1 ≤ x 4 := by omega
                      have xhi : x 4 ≤ 1099511627776 := by omega
                      clear tl
                      have tb1 : 0 ≤ tick + dt := HT2'.out.1
                      have tb2 : tick + dt ≤ 68679894317400064 := by have := HT2'.out.2; omega
                      rw [wrap_ok (by omega) (by omega)] at h2
                      subst h2
                      have hh : haltedB t false (tick + dt) = false := by unfold haltedB; simp; omega
                      clear hn
                      have hw : IntKind.i64.wrap (tick + dt + x 4) = tick + dt + x 4 := IntWalk.i64_in _ (by omega)
                      have ra0 : ∀ W : World, W.heap[w.heap.size]? = some (.cells #[.slice A n c, .slice B m d, .int .i64 (x 0), .int .i64 (x 1), .int .i64 (x 2), .int .i64 (x 3), .int .i64 (x 4), .int .i64 (x 5)] 35 (0, 0)) → W.cell? ⟨w.heap.size, 0, none⟩ = some (.slice A n c) := fun W h => cell_heap h rfl
                      have ra1 : ∀ W : World, W.heap[w.heap.size]? = some (.cells #[.slice A n c, .slice B m d, .int .i64 (x 0), .int .i64 (x 1), .int .i64 (x 2), .int .i64 (x 3), .int .i64 (x 4), .int .i64 (x 5)] 35 (0, 0)) → W.cell? ⟨w.heap.size, 1, none⟩ = some (.slice B m d) := fun W h => cell_heap h rfl
                      have ra2 : ∀ W : World, W.heap[w.heap.size]? = some (.cells #[.slice A n c, .slice B m d, .int .i64 (x 0), .int .i64 (x 1), .int .i64 (x 2), .int .i64 (x 3), .int .i64 (x 4), .int .i64 (x 5)] 35 (0, 0)) → W.cell? ⟨w.heap.size, 2, none⟩ = some (.int .i64 (x 0)) := fun W h => cell_heap h rfl
                      have ra3 : ∀ W : World, W.heap[w.heap.size]? = some (.cells #[.slice A n c, .slice B m d, .int .i64 (x 0), .int .i64 (x 1), .int .i64 (x 2), .int .i64 (x 3), .int .i64 (x 4), .int .i64 (x 5)] 35 (0, 0)) → W.cell? ⟨w.heap.size, 3, none⟩ = some (.int .i64 (x 1)) := fun W h => cell_heap h rfl
                      have ra4 : ∀ W : World, W.heap[w.heap.size]? = some (.cells #[.slice A n c, .slice B m d, .int .i64 (x 0), .int .i64 (x 1), .int .i64 (x 2), .int .i64 (x 3), .int .i64 (x 4), .int .i64 (x 5)] 35 (0, 0)) → W.cell? ⟨w.heap.size, 4, none⟩ = some (.int .i64 (x 2)) := fun W h => cell_heap h rfl
                      have ra5 : ∀ W : World, W.heap[w.heap.size]? = some (.cells #[.slice A n c, .slice B m d, .int .i64 (x 0), .int .i64 (x 1), .int .i64 (x 2), .int .i64 (x 3), .int .i64 (x 4), .int .i64 (x 5)] 35 (0, 0)) → W.cell? ⟨w.heap.size, 5, none⟩ = some (.int .i64 (x 3)) := fun W h => cell_heap h rfl
                      have ra6 : ∀ W : World, W.heap[w.heap.size]? = some (.cells #[.slice A n c, .slice B m d, .int .i64 (x 0), .int .i64 (x 1), .int .i64 (x 2), .int .i64 (x 3), .int .i64 (x 4), .int .i64 (x 5)] 35 (0, 0)) → W.cell? ⟨w.heap.size, 6, none⟩ = some (.int .i64 (x 4)) := fun W h => cell_heap h rfl
                      have ra7 : ∀ W : World, W.heap[w.heap.size]? = some (.cells #[.slice A n c, .slice B m d, .int .i64 (x 0), .int .i64 (x 1), .int .i64 (x 2), .int .i64 (x 3), .int .i64 (x 4), .int .i64 (x 5)] 35 (0, 0)) → W.cell? ⟨w.heap.size, 7, none⟩ = some (.int .i64 (x 5)) := fun W h => cell_heap h rfl
                      have rn0 : ∀ W : World, W.heap[N]? = some (.cells #[.bool false, .bool a1, .int .i64 t, .bool false] 87 (0, 0)) → W.cell? ⟨N, 0, none⟩ = some (.bool false) := fun W h => cell_heap h rfl
                      have rn1 : ∀ W : World, W.heap[N]? = some (.cells #[.bool false, .bool a1, .int .i64 t, .bool false] 87 (0, 0)) → W.cell? ⟨N, 1, none⟩ = some (.bool a1) := fun W h => cell_heap h rfl
                      have rn2 : ∀ W : World, W.heap[N]? = some (.cells #[.bool false, .bool a1, .int .i64 t, .bool false] 87 (0, 0)) → W.cell? ⟨N, 2, none⟩ = some (.int .i64 t) := fun W h => cell_heap h rfl
                      have rn3 : ∀ W : World, W.heap[N]? = some (.cells #[.bool false, .bool a1, .int .i64 t, .bool false] 87 (0, 0)) → W.cell? ⟨N, 3, none⟩ = some (.bool false) := fun W h => cell_heap h rfl
                      have rm0 : ∀ W : World, W.heap[M]? = some (.cells #[.bool true, .bool a1, .int .i64 (tick + dt + x 4), .bool false] 87 (0, 0)) → W.cell? ⟨M, 0, none⟩ = some (.bool true) := fun W h => cell_heap h rfl
                      have rm1 : ∀ W : World, W.heap[M]? = some (.cells #[.bool true, .bool a1, .int .i64 (tick + dt + x 4), .bool false] 87 (0, 0)) → W.cell? ⟨M, 1, none⟩ = some (.bool a1) := fun W h => cell_heap h rfl
                      have rm2 : ∀ W : World, W.heap[M]? = some (.cells #[.bool true, .bool a1, .int .i64 (tick + dt + x 4), .bool false] 87 (0, 0)) → W.cell? ⟨M, 2, none⟩ = some (.int .i64 (tick + dt + x 4)) := fun W h => cell_heap h rfl
                      have rm3 : ∀ W : World, W.heap[M]? = some (.cells #[.bool true, .bool a1, .int .i64 (tick + dt + x 4), .bool false] 87 (0, 0)) → W.cell? ⟨M, 3, none⟩ = some (.bool false) := fun W h => cell_heap h rfl
                      have rs0 : ∀ W : World, W.heap[N + 1]? = some (.cells #[.bool false, .bool false, .bool s2, .bool false] 95 (0, 0)) → W.cell? ⟨N + 1, 0, none⟩ = some (.bool false) := fun W h => cell_heap h rfl
                      have rs1 : ∀ W : World, W.heap[N + 1]? = some (.cells #[.bool false, .bool false, .bool s2, .bool false] 95 (0, 0)) → W.cell? ⟨N + 1, 1, none⟩ = some (.bool false) := fun W h => cell_heap h rfl
                      have rs2 : ∀ W : World, W.heap[N + 1]? = some (.cells #[.bool false, .bool false, .bool s2, .bool false] 95 (0, 0)) → W.cell? ⟨N + 1, 2, none⟩ = some (.bool s2) := fun W h => cell_heap h rfl
                      have rs3 : ∀ W : World, W.heap[N + 1]? = some (.cells #[.bool false, .bool false, .bool s2, .bool false] 95 (0, 0)) → W.cell? ⟨N + 1, 3, none⟩ = some (.bool false) := fun W h => cell_heap h rfl
                      refine wp_region_held_drew (S := (fun w' => Below w.heap.size w w' ∧ w'.heap[w.heap.size]? = some (.cells #[.slice A n c, .slice B m d, .int .i64 (x 0), .int .i64 (x 1), .int .i64 (x 2), .int .i64 (x 3), .int .i64 (x 4), .int .i64 (x 5)] 35 (0, 0)) ∧ w'.heap[N]? = some (.cells #[.bool false, .bool a1, .int .i64 t, .bool false] 87 (0, 0)) ∧ w'.heap[N + 1]? = some (.cells #[.bool false, .bool false, .bool s2, .bool false] 95 (0, 0)) ∧ w'.heap[M]? = some (.cells #[.bool true, .bool a1, .int .i64 (tick + dt + x 4), .bool false] 87 (0, 0)))) (by kernel_rfl) ?hSz10 (fun hHeld => ?rz10)
                      case hSz10 => exact ⟨drew_below BX.out, drew_heap X0.out, drew_heap X1.out, drew_heap X2.out, drew_heap X3.out⟩
                      show wpAnyH Try.prog .any _ _ _ 65 #[false, false, false, false, false, false, false, false, false, false, false, false, false, false, false, false, false, false, false, false, false, false, false, false, false, false, false, false, false, false, false, false, false, false, false, false, false, false, false, false, false, false, false, false, false, false, false, false, false, false, false, false, false, false, false, false, false, false, false, false, false, false, false, false, false] _ _
                      refine wpAnyH_take (i := 0) (oi := ?oi0z10) (v := ?v0z10) ?hi0z10 (by as_aux_lemma => kernel_rfl) (by as_aux_lemma => kernel_rfl) (by as_aux_lemma => kernel_rfl) ?hQ0z10 (Or.inl ⟨?hw0z10, ?hy0z10⟩) (by assumption) ?r0z10
                      case hi0z10 => (simp only [List.getElem?_toArray, List.getElem?_cons_succ, List.getElem?_cons_zero]; rfl)
                      case hQ0z10 => exact fun _ _ _ h => h
                      case hw0z10 => rfl
                      case hy0z10 => (intro w hSw; (try dsimp only at hSw); go_simp; (try with_reducible rfl))
                      (try simp only [Act.put, List.setIfInBounds_toArray, List.set_cons_zero, List.set_cons_succ])
                      refine wpAnyH_take (i := 1) (oi := ?oi1z10) (v := ?v1z10) ?hi1z10 (by as_aux_lemma => kernel_rfl) (by as_aux_lemma => kernel_rfl) (by as_aux_lemma => kernel_rfl) ?hQ1z10 (Or.inl ⟨?hw1z10, ?hy1z10⟩) (by assumption) ?r1z10
                      case hi1z10 => (simp only [List.getElem?_toArray, List.getElem?_cons_succ, List.getElem?_cons_zero]; rfl)
                      case hQ1z10 => exact fun _ _ _ h => h
                      case hw1z10 => rfl
                      case hy1z10 => (intro w hSw; (try dsimp only at hSw); go_simp; (try with_reducible rfl))
                      (try simp only [Act.put, List.setIfInBounds_toArray, List.set_cons_zero, List.set_cons_succ])
                      refine wpAnyH_take (i := 2) (oi := ?oi2z10) (v := ?v2z10) ?hi2z10 (by as_aux_lemma => kernel_rfl) (by as_aux_lemma => kernel_rfl) (by as_aux_lemma => kernel_rfl) ?hQ2z10 (Or.inl ⟨?hw2z10, ?hy2z10⟩) (by assumption) ?r2z10
                      case hi2z10 => (simp only [List.getElem?_toArray, List.getElem?_cons_succ, List.getElem?_cons_zero]; rfl)
                      case hQ2z10 => exact fun _ _ _ h => h
                      case hw2z10 => rfl
                      case hy2z10 => (intro w hSw; (try dsimp only at hSw); go_simp; (try with_reducible rfl))
                      (try simp only [Act.put, List.setIfInBounds_toArray, List.set_cons_zero, List.set_cons_succ])
                      refine wpAnyH_take (i := 3) (oi := ?oi3z10) (v := ?v3z10) ?hi3z10 (by as_aux_lemma => kernel_rfl) (by as_aux_lemma => kernel_rfl) (by as_aux_lemma => kernel_rfl) ?hQ3z10 (Or.inl ⟨?hw3z10, ?hy3z10⟩) (by assumption) ?r3z10
                      case hi3z10 => (simp only [List.getElem?_toArray, List.getElem?_cons_succ, List.getElem?_cons_zero]; rfl)
                      case hQ3z10 => exact fun _ _ _ h => h
                      case hw3z10 => rfl
                      case hy3z10 => (intro w hSw; (try dsimp only at hSw); go_simp; (try with_reducible rfl))
                      (try simp only [Act.put, List.setIfInBounds_toArray, List.set_cons_zero, List.set_cons_succ])
                      refine wpAnyH_take (i := 4) (oi := ?oi4z10) (v := ?v4z10) ?hi4z10 (by as_aux_lemma => kernel_rfl) (by as_aux_lemma => kernel_rfl) (by as_aux_lemma => kernel_rfl) ?hQ4z10 (Or.inl ⟨?hw4z10, ?hy4z10⟩) (by assumption) ?r4z10
                      case hi4z10 => (simp only [List.getElem?_toArray, List.getElem?_cons_succ, List.getElem?_cons_zero]; rfl)
                      case hQ4z10 => exact fun _ _ _ h => h
                      case hw4z10 => rfl
                      case hy4z10 => (intro w hSw; (try dsimp only at hSw); go_simp; (try with_reducible rfl))
                      (try simp only [Act.put, List.setIfInBounds_toArray, List.set_cons_zero, List.set_cons_succ])
                      refine wpAnyH_take (i := 5) (oi := ?oi5z10) (v := ?v5z10) ?hi5z10 (by as_aux_lemma => kernel_rfl) (by as_aux_lemma => kernel_rfl) (by as_aux_lemma => kernel_rfl) ?hQ5z10 (Or.inl ⟨?hw5z10, ?hy5z10⟩) (by assumption) ?r5z10
                      case hi5z10 => (simp only [List.getElem?_toArray, List.getElem?_cons_succ, List.getElem?_cons_zero]; rfl)
                      case hQ5z10 => exact fun _ _ _ h => h
                      case hw5z10 => rfl
                      case hy5z10 => (intro w hSw; (try dsimp only at hSw); go_simp; (try with_reducible rfl))
                      (try simp only [Act.put, List.setIfInBounds_toArray, List.set_cons_zero, List.set_cons_succ])
                      refine wpAnyH_take (i := 6) (oi := ?oi6z10) (v := ?v6z10) ?hi6z10 (by as_aux_lemma => kernel_rfl) (by as_aux_lemma => kernel_rfl) (by as_aux_lemma => kernel_rfl) ?hQ6z10 (Or.inl ⟨?hw6z10, ?hy6z10⟩) (by assumption) ?r6z10
                      case hi6z10 => (simp only [List.getElem?_toArray, List.getElem?_cons_succ, List.getElem?_cons_zero]; rfl)
                      case hQ6z10 => exact fun _ _ _ h => h
                      case hw6z10 => rfl
                      case hy6z10 => (intro w hSw; (try dsimp only at hSw); go_simp; (try with_reducible rfl))
                      (try simp only [Act.put, List.setIfInBounds_toArray, List.set_cons_zero, List.set_cons_succ])
                      refine wpAnyH_take (i := 7) (oi := ?oi7z10) (v := ?v7z10) ?hi7z10 (by as_aux_lemma => kernel_rfl) (by as_aux_lemma => kernel_rfl) (by as_aux_lemma => kernel_rfl) ?hQ7z10 (Or.inl ⟨?hw7z10, ?hy7z10⟩) (by assumption) ?r7z10
                      case hi7z10 => (simp only [List.getElem?_toArray, List.getElem?_cons_succ, List.getElem?_cons_zero]; rfl)
                      case hQ7z10 => exact fun _ _ _ h => h
                      case hw7z10 => rfl
                      case hy7z10 => (intro w hSw; (try dsimp only at hSw); go_simp; (try with_reducible rfl))
                      (try simp only [Act.put, List.setIfInBounds_toArray, List.set_cons_zero, List.set_cons_succ])
                      as_aux_lemma =>
                      refine wpAnyH_take (i := 8) (oi := ?oi8z10) (v := ?v8z10) ?hi8z10 (by as_aux_lemma => kernel_rfl) (by as_aux_lemma => kernel_rfl) (by as_aux_lemma => kernel_rfl) ?hQ8z10 (Or.inl ⟨?hw8z10, ?hy8z10⟩) (by assumption) ?r8z10
                      case hi8z10 => (simp only [List.getElem?_toArray, List.getElem?_cons_succ, List.getElem?_cons_zero]; rfl)
                      case hQ8z10 => exact fun _ _ _ h => h
                      case hw8z10 => rfl
                      case hy8z10 => (intro w hSw; (try dsimp only at hSw); go_simp; (try with_reducible rfl))
                      (try simp only [Act.put, List.setIfInBounds_toArray, List.set_cons_zero, List.set_cons_succ])
                      refine wpAnyH_take (i := 9) (oi := ?oi9z10) (v := ?v9z10) ?hi9z10 (by as_aux_lemma => kernel_rfl) (by as_aux_lemma => kernel_rfl) (by as_aux_lemma => kernel_rfl) ?hQ9z10 (Or.inl ⟨?hw9z10, ?hy9z10⟩) (by assumption) ?r9z10
                      case hi9z10 => (simp only [List.getElem?_toArray, List.getElem?_cons_succ, List.getElem?_cons_zero]; rfl)
                      case hQ9z10 => exact fun _ _ _ h => h
                      case hw9z10 => rfl
                      case hy9z10 => (intro w hSw; (try dsimp only at hSw); go_simp; (try with_reducible rfl))
                      (try simp only [Act.put, List.setIfInBounds_toArray, List.set_cons_zero, List.set_cons_succ])
                      refine wpAnyH_take (i := 10) (oi := ?oi10z10) (v := ?v10z10) ?hi10z10 (by as_aux_lemma => kernel_rfl) (by as_aux_lemma => kernel_rfl) (by as_aux_lemma => kernel_rfl) ?hQ10z10 (Or.inl ⟨?hw10z10, ?hy10z10⟩) (by assumption) ?r10z10
                      case hi10z10 => (simp only [List.getElem?_toArray, List.getElem?_cons_succ, List.getElem?_cons_zero]; rfl)
                      case hQ10z10 => exact fun _ _ _ h => h
                      case hw10z10 => rfl
                      case hy10z10 => (intro w hSw; (try dsimp only at hSw); go_simp; (try with_reducible rfl))
                      (try simp only [Act.put, List.setIfInBounds_toArray, List.set_cons_zero, List.set_cons_succ])
                      refine wpAnyH_take (i := 11) (oi := ?oi11z10) (v := ?v11z10) ?hi11z10 (by as_aux_lemma => kernel_rfl) (by as_aux_lemma => kernel_rfl) (by as_aux_lemma => kernel_rfl) ?hQ11z10 (Or.inl ⟨?hw11z10, ?hy11z10⟩) (by assumption) ?r11z10
                      case hi11z10 => (simp only [List.getElem?_toArray, List.getElem?_cons_succ, List.getElem?_cons_zero]; rfl)
                      case hQ11z10 => exact fun _ _ _ h => h
                      case hw11z10 => rfl
                      case hy11z10 => (intro w hSw; (try dsimp only at hSw); go_simp; (try with_reducible rfl))
                      (try simp only [Act.put, List.setIfInBounds_toArray, List.set_cons_zero, List.set_cons_succ])
                      refine wpAnyH_take (i := 12) (oi := ?oi12z10) (v := ?v12z10) ?hi12z10 (by as_aux_lemma => kernel_rfl) (by as_aux_lemma => kernel_rfl) (by as_aux_lemma => kernel_rfl) ?hQ12z10 (Or.inl ⟨?hw12z10, ?hy12z10⟩) (by assumption) ?r12z10
                      case hi12z10 => (simp only [List.getElem?_toArray, List.getElem?_cons_succ, List.getElem?_cons_zero]; rfl)
                      case hQ12z10 => exact fun _ _ _ h => h
                      case hw12z10 => rfl
                      case hy12z10 => (intro w hSw; (try dsimp only at hSw); go_simp; (try with_reducible rfl))
                      (try simp only [Act.put, List.setIfInBounds_toArray, List.set_cons_zero, List.set_cons_succ])
                      refine wpAnyH_take (i := 13) (oi := ?oi13z10) (v := ?v13z10) ?hi13z10 (by as_aux_lemma => kernel_rfl) (by as_aux_lemma => kernel_rfl) (by as_aux_lemma => kernel_rfl) ?hQ13z10 (Or.inl ⟨?hw13z10, ?hy13z10⟩) (by assumption) ?r13z10
                      case hi13z10 => (simp only [List.getElem?_toArray, List.getElem?_cons_succ, List.getElem?_cons_zero]; rfl)
                      case hQ13z10 => exact fun _ _ _ h => h
                      case hw13z10 => rfl
                      case hy13z10 => (intro w hSw; (try dsimp only at hSw); go_simp; (try with_reducible rfl))
                      (try simp only [Act.put, List.setIfInBounds_toArray, List.set_cons_zero, List.set_cons_succ])
                      refine wpAnyH_take (i := 14) (oi := ?oi14z10) (v := ?v14z10) ?hi14z10 (by as_aux_lemma => kernel_rfl) (by as_aux_lemma => kernel_rfl) (by as_aux_lemma => kernel_rfl) ?hQ14z10 (Or.inl ⟨?hw14z10, ?hy14z10⟩) (by assumption) ?r14z10
                      case hi14z10 => (simp only [List.getElem?_toArray, List.getElem?_cons_succ, List.getElem?_cons_zero]; rfl)
                      case hQ14z10 => exact fun _ _ _ h => h
                      case hw14z10 => rfl
                      case hy14z10 => (intro w hSw; (try dsimp only at hSw); go_simp; (try with_reducible rfl))
                      (try simp only [Act.put, List.setIfInBounds_toArray, List.set_cons_zero, List.set_cons_succ])
                      refine wpAnyH_take (i := 15) (oi := ?oi15z10) (v := ?v15z10) ?hi15z10 (by as_aux_lemma => kernel_rfl) (by as_aux_lemma => kernel_rfl) (by as_aux_lemma => kernel_rfl) ?hQ15z10 (Or.inl ⟨?hw15z10, ?hy15z10⟩) (by assumption) ?r15z10
                      case hi15z10 => (simp only [List.getElem?_toArray, List.getElem?_cons_succ, List.getElem?_cons_zero]; rfl)
                      case hQ15z10 => exact fun _ _ _ h => h
                      case hw15z10 => rfl
                      case hy15z10 => (intro w hSw; (try dsimp only at hSw); go_simp; (try with_reducible rfl))
                      (try simp only [Act.put, List.setIfInBounds_toArray, List.set_cons_zero, List.set_cons_succ])
                      as_aux_lemma =>
                      refine wpAnyH_take (i := 16) (oi := ?oi16z10) (v := ?v16z10) ?hi16z10 (by as_aux_lemma => kernel_rfl) (by as_aux_lemma => kernel_rfl) (by as_aux_lemma => kernel_rfl) ?hQ16z10 (Or.inl ⟨?hw16z10, ?hy16z10⟩) (by assumption) ?r16z10
                      case hi16z10 => (simp only [List.getElem?_toArray, List.getElem?_cons_succ, List.getElem?_cons_zero]; rfl)
                      case hQ16z10 => exact fun _ _ _ h => h
                      case hw16z10 => rfl
                      case hy16z10 => (intro w hSw; (try dsimp only at hSw); go_simp; (try with_reducible rfl))
                      (try simp only [Act.put, List.setIfInBounds_toArray, List.set_cons_zero, List.set_cons_succ])
                      refine wpAnyH_take (i := 17) (oi := ?oi17z10) (v := ?v17z10) ?hi17z10 (by as_aux_lemma => kernel_rfl) (by as_aux_lemma => kernel_rfl) (by as_aux_lemma => kernel_rfl) ?hQ17z10 (Or.inl ⟨?hw17z10, ?hy17z10⟩) (by assumption) ?r17z10
                      case hi17z10 => (simp only [List.getElem?_toArray, List.getElem?_cons_succ, List.getElem?_cons_zero]; rfl)
                      case hQ17z10 => exact fun _ _ _ h => h
                      case hw17z10 => rfl
                      case hy17z10 => (intro w hSw; (try dsimp only at hSw); go_simp; (try with_reducible rfl))
                      (try simp only [Act.put, List.setIfInBounds_toArray, List.set_cons_zero, List.set_cons_succ])
                      refine wpAnyH_take (i := 18) (oi := ?oi18z10) (v := ?v18z10) ?hi18z10 (by as_aux_lemma => kernel_rfl) (by as_aux_lemma => kernel_rfl) (by as_aux_lemma => kernel_rfl) ?hQ18z10 (Or.inl ⟨?hw18z10, ?hy18z10⟩) (by assumption) ?r18z10
                      case hi18z10 => (simp only [List.getElem?_toArray, List.getElem?_cons_succ, List.getElem?_cons_zero]; rfl)
                      case hQ18z10 => exact fun _ _ _ h => h
                      case hw18z10 => rfl
                      case hy18z10 => (intro w hSw; (try dsimp only at hSw); go_simp; (try with_reducible rfl))
                      (try simp only [Act.put, List.setIfInBounds_toArray, List.set_cons_zero, List.set_cons_succ])
                      refine wpAnyH_take (i := 19) (oi := ?oi19z10) (v := ?v19z10) ?hi19z10 (by as_aux_lemma => kernel_rfl) (by as_aux_lemma => kernel_rfl) (by as_aux_lemma => kernel_rfl) ?hQ19z10 (Or.inl ⟨?hw19z10, ?hy19z10⟩) (by assumption) ?r19z10
                      case hi19z10 => (simp only [List.getElem?_toArray, List.getElem?_cons_succ, List.getElem?_cons_zero]; rfl)
                      case hQ19z10 => exact fun _ _ _ h => h
                      case hw19z10 => rfl
                      case hy19z10 => (intro w hSw; (try dsimp only at hSw); go_simp; (try with_reducible rfl))
                      (try simp only [Act.put, List.setIfInBounds_toArray, List.set_cons_zero, List.set_cons_succ])
                      refine wpAnyH_take (i := 20) (oi := ?oi20z10) (v := ?v20z10) ?hi20z10 (by as_aux_lemma => kernel_rfl) (by as_aux_lemma => kernel_rfl) (by as_aux_lemma => kernel_rfl) ?hQ20z10 (Or.inl ⟨?hw20z10, ?hy20z10⟩) (by assumption) ?r20z10
                      case hi20z10 => (simp only [List.getElem?_toArray, List.getElem?_cons_succ, List.getElem?_cons_zero]; rfl)
                      case hQ20z10 => exact fun _ _ _ h => h
                      case hw20z10 => rfl
                      case hy20z10 => (intro w hSw; (try dsimp only at hSw); go_simp; (try with_reducible rfl))
                      (try simp only [Act.put, List.setIfInBounds_toArray, List.set_cons_zero, List.set_cons_succ])
                      refine wpAnyH_take (i := 21) (oi := ?oi21z10) (v := ?v21z10) ?hi21z10 (by as_aux_lemma => kernel_rfl) (by as_aux_lemma => kernel_rfl) (by as_aux_lemma => kernel_rfl) ?hQ21z10 (Or.inl ⟨?hw21z10, ?hy21z10⟩) (by assumption) ?r21z10
                      case hi21z10 => (simp only [List.getElem?_toArray, List.getElem?_cons_succ, List.getElem?_cons_zero]; rfl)
                      case hQ21z10 => exact fun _ _ _ h => h
                      case hw21z10 => rfl
                      case hy21z10 => (intro w hSw; (try dsimp only at hSw); go_simp; (try with_reducible rfl))
                      (try simp only [Act.put, List.setIfInBounds_toArray, List.set_cons_zero, List.set_cons_succ])
                      refine wpAnyH_take (i := 22) (oi := ?oi22z10) (v := ?v22z10) ?hi22z10 (by as_aux_lemma => kernel_rfl) (by as_aux_lemma => kernel_rfl) (by as_aux_lemma => kernel_rfl) ?hQ22z10 (Or.inl ⟨?hw22z10, ?hy22z10⟩) (by assumption) ?r22z10
                      case hi22z10 => (simp only [List.getElem?_toArray, List.getElem?_cons_succ, List.getElem?_cons_zero]; rfl)
                      case hQ22z10 => exact fun _ _ _ h => h
                      case hw22z10 => rfl
                      case hy22z10 => (intro w hSw; (try dsimp only at hSw); go_simp; (try with_reducible rfl))
                      (try simp only [Act.put, List.setIfInBounds_toArray, List.set_cons_zero, List.set_cons_succ])
                      refine wpAnyH_take (i := 23) (oi := ?oi23z10) (v := ?v23z10) ?hi23z10 (by as_aux_lemma => kernel_rfl) (by as_aux_lemma => kernel_rfl) (by as_aux_lemma => kernel_rfl) ?hQ23z10 (Or.inl ⟨?hw23z10, ?hy23z10⟩) (by assumption) ?r23z10
                      case hi23z10 => (simp only [List.getElem?_toArray, List.getElem?_cons_succ, List.getElem?_cons_zero]; rfl)
                      case hQ23z10 => exact fun _ _ _ h => h
                      case hw23z10 => rfl
                      case hy23z10 => (intro w hSw; (try dsimp only at hSw); go_simp; (try with_reducible rfl))
                      (try simp only [Act.put, List.setIfInBounds_toArray, List.set_cons_zero, List.set_cons_succ])
                      as_aux_lemma =>
                      refine wpAnyH_take (i := 24) (oi := ?oi24z10) (v := ?v24z10) ?hi24z10 (by as_aux_lemma => kernel_rfl) (by as_aux_lemma => kernel_rfl) (by as_aux_lemma => kernel_rfl) ?hQ24z10 (Or.inl ⟨?hw24z10, ?hy24z10⟩) (by assumption) ?r24z10
                      case hi24z10 => (simp only [List.getElem?_toArray, List.getElem?_cons_succ, List.getElem?_cons_zero]; rfl)
                      case hQ24z10 => exact fun _ _ _ h => h
                      case hw24z10 => rfl
                      case hy24z10 => (intro w hSw; (try dsimp only at hSw); go_simp; (try with_reducible rfl))
                      (try simp only [Act.put, List.setIfInBounds_toArray, List.set_cons_zero, List.set_cons_succ])
                      refine wpAnyH_take (i := 25) (oi := ?oi25z10) (v := ?v25z10) ?hi25z10 (by as_aux_lemma => kernel_rfl) (by as_aux_lemma => kernel_rfl) (by as_aux_lemma => kernel_rfl) ?hQ25z10 (Or.inl ⟨?hw25z10, ?hy25z10⟩) (by assumption) ?r25z10
                      case hi25z10 => (simp only [List.getElem?_toArray, List.getElem?_cons_succ, List.getElem?_cons_zero]; rfl)
                      case hQ25z10 => exact fun _ _ _ h => h
                      case hw25z10 => rfl
                      case hy25z10 => (intro w hSw; (try dsimp only at hSw); go_simp; (try with_reducible rfl))
                      (try simp only [Act.put, List.setIfInBounds_toArray, List.set_cons_zero, List.set_cons_succ])
                      refine wpAnyH_take (i := 26) (oi := ?oi26z10) (v := ?v26z10) ?hi26z10 (by as_aux_lemma => kernel_rfl) (by as_aux_lemma => kernel_rfl) (by as_aux_lemma => kernel_rfl) ?hQ26z10 (Or.inl ⟨?hw26z10, ?hy26z10⟩) (by assumption) ?r26z10
                      case hi26z10 => (simp only [List.getElem?_toArray, List.getElem?_cons_succ, List.getElem?_cons_zero]; rfl)
                      case hQ26z10 => exact fun _ _ _ h => h
                      case hw26z10 => rfl
                      case hy26z10 => (intro w hSw; (try dsimp only at hSw); go_simp; (try with_reducible rfl))
                      (try simp only [Act.put, List.setIfInBounds_toArray, List.set_cons_zero, List.set_cons_succ])
                      refine wpAnyH_take (i := 27) (oi := ?oi27z10) (v := ?v27z10) ?hi27z10 (by as_aux_lemma => kernel_rfl) (by as_aux_lemma => kernel_rfl) (by as_aux_lemma => kernel_rfl) ?hQ27z10 (Or.inl ⟨?hw27z10, ?hy27z10⟩) (by assumption) ?r27z10
                      case hi27z10 => (simp only [List.getElem?_toArray, List.getElem?_cons_succ, List.getElem?_cons_zero]; rfl)
                      case hQ27z10 => exact fun _ _ _ h => h
                      case hw27z10 => rfl
                      case hy27z10 => (intro w hSw; (try dsimp only at hSw); go_simp; (try with_reducible rfl))
                      (try simp only [Act.put, List.setIfInBounds_toArray, List.set_cons_zero, List.set_cons_succ])
                      refine wpAnyH_take (i := 28) (oi := ?oi28z10) (v := ?v28z10) ?hi28z10 (by as_aux_lemma => kernel_rfl) (by as_aux_lemma => kernel_rfl) (by as_aux_lemma => kernel_rfl) ?hQ28z10 (Or.inl ⟨?hw28z10, ?hy28z10⟩) (by assumption) ?r28z10
                      case hi28z10 => (simp only [List.getElem?_toArray, List.getElem?_cons_succ, List.getElem?_cons_zero]; rfl)
                      case hQ28z10 => exact fun _ _ _ h => h
                      case hw28z10 => rfl
                      case hy28z10 => (intro w hSw; (try dsimp only at hSw); go_simp; (try with_reducible rfl))
                      (try simp only [Act.put, List.setIfInBounds_toArray, List.set_cons_zero, List.set_cons_succ])
                      refine wpAnyH_take (i := 29) (oi := ?oi29z10) (v := ?v29z10) ?hi29z10 (by as_aux_lemma => kernel_rfl) (by as_aux_lemma => kernel_rfl) (by as_aux_lemma => kernel_rfl) ?hQ29z10 (Or.inl ⟨?hw29z10, ?hy29z10⟩) (by assumption) ?r29z10
                      case hi29z10 => (simp only [List.getElem?_toArray, List.getElem?_cons_succ, List.getElem?_cons_zero]; rfl)
                      case hQ29z10 => exact fun _ _ _ h => h
                      case hw29z10 => rfl
                      case hy29z10 => (intro w hSw; (try dsimp only at hSw); go_simp; (try with_reducible rfl))
                      (try simp only [Act.put, List.setIfInBounds_toArray, List.set_cons_zero, List.set_cons_succ])
                      refine wpAnyH_take (i := 30) (oi := ?oi30z10) (v := undef) ?hi30z10 (by as_aux_lemma => kernel_rfl) (by as_aux_lemma => kernel_rfl) (by as_aux_lemma => kernel_rfl) ?hQ30z10 (Or.inr ⟨?hw30z10, rfl⟩) (by assumption) ?r30z10
                      case hi30z10 => (simp only [List.getElem?_toArray, List.getElem?_cons_succ, List.getElem?_cons_zero]; rfl)
                      case hQ30z10 => exact fun _ _ _ h => h
                      case hw30z10 => rfl
                      (try simp only [Act.put, List.setIfInBounds_toArray, List.set_cons_zero, List.set_cons_succ])
                      refine wpAnyH_take (i := 31) (oi := ?oi31z10) (v := undef) ?hi31z10 (by as_aux_lemma => kernel_rfl) (by as_aux_lemma => kernel_rfl) (by as_aux_lemma => kernel_rfl) ?hQ31z10 (Or.inr ⟨?hw31z10, rfl⟩) (by assumption) ?r31z10
                      case hi31z10 => (simp only [List.getElem?_toArray, List.getElem?_cons_succ, List.getElem?_cons_zero]; rfl)
                      case hQ31z10 => exact fun _ _ _ h => h
                      case hw31z10 => rfl
                      (try simp only [Act.put, List.setIfInBounds_toArray, List.set_cons_zero, List.set_cons_succ])
                      as_aux_lemma =>
                      refine wpAnyH_take (i := 32) (oi := ?oi32z10) (v := undef) ?hi32z10 (by as_aux_lemma => kernel_rfl) (by as_aux_lemma => kernel_rfl) (by as_aux_lemma => kernel_rfl) ?hQ32z10 (Or.inr ⟨?hw32z10, rfl⟩) (by assumption) ?r32z10
                      case hi32z10 => (simp only [List.getElem?_toArray, List.getElem?_cons_succ, List.getElem?_cons_zero]; rfl)
                      case hQ32z10 => exact fun _ _ _ h => h
                      case hw32z10 => rfl
                      (try simp only [Act.put, List.setIfInBounds_toArray, List.set_cons_zero, List.set_cons_succ])
                      refine wpAnyH_take (i := 33) (oi := ?oi33z10) (v := ?v33z10) ?hi33z10 (by as_aux_lemma => kernel_rfl) (by as_aux_lemma => kernel_rfl) (by as_aux_lemma => kernel_rfl) ?hQ33z10 (Or.inl ⟨?hw33z10, ?hy33z10⟩) (by assumption) ?r33z10
                      case hi33z10 => (simp only [List.getElem?_toArray, List.getElem?_cons_succ, List.getElem?_cons_zero]; rfl)
                      case hQ33z10 => exact fun _ _ _ h => h
                      case hw33z10 => rfl
                      case hy33z10 => (intro w hSw; (try dsimp only at hSw); go_simp; (try with_reducible rfl))
                      (try simp only [Act.put, List.setIfInBounds_toArray, List.set_cons_zero, List.set_cons_succ])
                      refine wpAnyH_take (i := 34) (oi := ?oi34z10) (v := ?v34z10) ?hi34z10 (by as_aux_lemma => kernel_rfl) (by as_aux_lemma => kernel_rfl) (by as_aux_lemma => kernel_rfl) ?hQ34z10 (Or.inl ⟨?hw34z10, ?hy34z10⟩) (by assumption) ?r34z10
                      case hi34z10 => (simp only [List.getElem?_toArray, List.getElem?_cons_succ, List.getElem?_cons_zero]; rfl)
                      case hQ34z10 => exact fun _ _ _ h => h
                      case hw34z10 => rfl
                      case hy34z10 => (intro w hSw; (try dsimp only at hSw); go_simp; (try with_reducible rfl))
                      (try simp only [Act.put, List.setIfInBounds_toArray, List.set_cons_zero, List.set_cons_succ])
                      refine wpAnyH_take (i := 35) (oi := ?oi35z10) (v := ?v35z10) ?hi35z10 (by as_aux_lemma => kernel_rfl) (by as_aux_lemma => kernel_rfl) (by as_aux_lemma => kernel_rfl) ?hQ35z10 (Or.inl ⟨?hw35z10, ?hy35z10⟩) (by assumption) ?r35z10
                      case hi35z10 => (simp only [List.getElem?_toArray, List.getElem?_cons_succ, List.getElem?_cons_zero]; rfl)
                      case hQ35z10 => exact fun _ _ _ h => h
                      case hw35z10 => rfl
                      case hy35z10 => (intro w hSw; (try dsimp only at hSw); go_simp; (try with_reducible rfl))
                      (try simp only [Act.put, List.setIfInBounds_toArray, List.set_cons_zero, List.set_cons_succ])
                      refine wpAnyH_take (i := 36) (oi := ?oi36z10) (v := ?v36z10) ?hi36z10 (by as_aux_lemma => kernel_rfl) (by as_aux_lemma => kernel_rfl) (by as_aux_lemma => kernel_rfl) ?hQ36z10 (Or.inl ⟨?hw36z10, ?hy36z10⟩) (by assumption) ?r36z10
                      case hi36z10 => (simp only [List.getElem?_toArray, List.getElem?_cons_succ, List.getElem?_cons_zero]; rfl)
                      case hQ36z10 => exact fun _ _ _ h => h
                      case hw36z10 => rfl
                      case hy36z10 => (intro w hSw; (try dsimp only at hSw); go_simp; (try with_reducible rfl))
                      (try simp only [Act.put, List.setIfInBounds_toArray, List.set_cons_zero, List.set_cons_succ])
                      refine wpAnyH_take (i := 37) (oi := ?oi37z10) (v := ?v37z10) ?hi37z10 (by as_aux_lemma => kernel_rfl) (by as_aux_lemma => kernel_rfl) (by as_aux_lemma => kernel_rfl) ?hQ37z10 (Or.inl ⟨?hw37z10, ?hy37z10⟩) (by assumption) ?r37z10
                      case hi37z10 => (simp only [List.getElem?_toArray, List.getElem?_cons_succ, List.getElem?_cons_zero]; rfl)
                      case hQ37z10 => exact fun _ _ _ h => h
                      case hw37z10 => rfl
                      case hy37z10 => (intro w hSw; (try dsimp only at hSw); go_simp; (try with_reducible rfl))
                      (try simp only [Act.put, List.setIfInBounds_toArray, List.set_cons_zero, List.set_cons_succ])
                      refine wpAnyH_take (i := 38) (oi := ?oi38z10) (v := ?v38z10) ?hi38z10 (by as_aux_lemma => kernel_rfl) (by as_aux_lemma => kernel_rfl) (by as_aux_lemma => kernel_rfl) ?hQ38z10 (Or.inl ⟨?hw38z10, ?hy38z10⟩) (by assumption) ?r38z10
                      case hi38z10 => (simp only [List.getElem?_toArray, List.getElem?_cons_succ, List.getElem?_cons_zero]; rfl)
                      case hQ38z10 => exact fun _ _ _ h => h
                      case hw38z10 => rfl
                      case hy38z10 => (intro w hSw; (try dsimp only at hSw); go_simp; (try with_reducible rfl))
                      (try simp only [Act.put, List.setIfInBounds_toArray, List.set_cons_zero, List.set_cons_succ])
                      refine wpAnyH_take (i := 39) (oi := ?oi39z10) (v := ?v39z10) ?hi39z10 (by as_aux_lemma => kernel_rfl) (by as_aux_lemma => kernel_rfl) (by as_aux_lemma => kernel_rfl) ?hQ39z10 (Or.inl ⟨?hw39z10, ?hy39z10⟩) (by assumption) ?r39z10
                      case hi39z10 => (simp only [List.getElem?_toArray, List.getElem?_cons_succ, List.getElem?_cons_zero]; rfl)
                      case hQ39z10 => exact fun _ _ _ h => h
                      case hw39z10 => rfl
                      case hy39z10 => (intro w hSw; (try dsimp only at hSw); go_simp; (try with_reducible rfl))
                      (try simp only [Act.put, List.setIfInBounds_toArray, List.set_cons_zero, List.set_cons_succ])
                      as_aux_lemma =>
                      refine wpAnyH_take (i := 40) (oi := ?oi40z10) (v := ?v40z10) ?hi40z10 (by as_aux_lemma => kernel_rfl) (by as_aux_lemma => kernel_rfl) (by as_aux_lemma => kernel_rfl) ?hQ40z10 (Or.inl ⟨?hw40z10, ?hy40z10⟩) (by assumption) ?r40z10
                      case hi40z10 => (simp only [List.getElem?_toArray, List.getElem?_cons_succ, List.getElem?_cons_zero]; rfl)
                      case hQ40z10 => exact fun _ _ _ h => h
                      case hw40z10 => rfl
                      case hy40z10 => (intro w hSw; (try dsimp only at hSw); go_simp; (try with_reducible rfl))
                      (try simp only [Act.put, List.setIfInBounds_toArray, List.set_cons_zero, List.set_cons_succ])
                      refine wpAnyH_take (i := 41) (oi := ?oi41z10) (v := ?v41z10) ?hi41z10 (by as_aux_lemma => kernel_rfl) (by as_aux_lemma => kernel_rfl) (by as_aux_lemma => kernel_rfl) ?hQ41z10 (Or.inl ⟨?hw41z10, ?hy41z10⟩) (by assumption) ?r41z10
                      case hi41z10 => (simp only [List.getElem?_toArray, List.getElem?_cons_succ, List.getElem?_cons_zero]; rfl)
                      case hQ41z10 => exact fun _ _ _ h => h
                      case hw41z10 => rfl
                      case hy41z10 => (intro w hSw; (try dsimp only at hSw); go_simp; (try with_reducible rfl))
                      (try simp only [Act.put, List.setIfInBounds_toArray, List.set_cons_zero, List.set_cons_succ])
                      refine wpAnyH_take (i := 42) (oi := ?oi42z10) (v := ?v42z10) ?hi42z10 (by as_aux_lemma => kernel_rfl) (by as_aux_lemma => kernel_rfl) (by as_aux_lemma => kernel_rfl) ?hQ42z10 (Or.inl ⟨?hw42z10, ?hy42z10⟩) (by assumption) ?r42z10
                      case hi42z10 => (simp only [List.getElem?_toArray, List.getElem?_cons_succ, List.getElem?_cons_zero]; rfl)
                      case hQ42z10 => exact fun _ _ _ h => h
                      case hw42z10 => rfl
                      case hy42z10 => (intro w hSw; (try dsimp only at hSw); go_simp; (try with_reducible rfl))
                      (try simp only [Act.put, List.setIfInBounds_toArray, List.set_cons_zero, List.set_cons_succ])
                      refine wpAnyH_take (i := 43) (oi := ?oi43z10) (v := ?v43z10) ?hi43z10 (by as_aux_lemma => kernel_rfl) (by as_aux_lemma => kernel_rfl) (by as_aux_lemma => kernel_rfl) ?hQ43z10 (Or.inl ⟨?hw43z10, ?hy43z10⟩) (by assumption) ?r43z10
                      case hi43z10 => (simp only [List.getElem?_toArray, List.getElem?_cons_succ, List.getElem?_cons_zero]; rfl)
                      case hQ43z10 => exact fun _ _ _ h => h
                      case hw43z10 => rfl
                      case hy43z10 => (intro w hSw; (try dsimp only at hSw); go_simp; (try with_reducible rfl))
                      (try simp only [Act.put, List.setIfInBounds_toArray, List.set_cons_zero, List.set_cons_succ])
                      refine wpAnyH_take (i := 44) (oi := ?oi44z10) (v := ?v44z10) ?hi44z10 (by as_aux_lemma => kernel_rfl) (by as_aux_lemma => kernel_rfl) (by as_aux_lemma => kernel_rfl) ?hQ44z10 (Or.inl ⟨?hw44z10, ?hy44z10⟩) (by assumption) ?r44z10
                      case hi44z10 => (simp only [List.getElem?_toArray, List.getElem?_cons_succ, List.getElem?_cons_zero]; rfl)
                      case hQ44z10 => exact fun _ _ _ h => h
                      case hw44z10 => rfl
                      case hy44z10 => (intro w hSw; (try dsimp only at hSw); go_simp; (try with_reducible rfl))
                      (try simp only [Act.put, List.setIfInBounds_toArray, List.set_cons_zero, List.set_cons_succ])
                      refine wpAnyH_take (i := 45) (oi := ?oi45z10) (v := ?v45z10) ?hi45z10 (by as_aux_lemma => kernel_rfl) (by as_aux_lemma => kernel_rfl) (by as_aux_lemma => kernel_rfl) ?hQ45z10 (Or.inl ⟨?hw45z10, ?hy45z10⟩) (by assumption) ?r45z10
                      case hi45z10 => (simp only [List.getElem?_toArray, List.getElem?_cons_succ, List.getElem?_cons_zero]; rfl)
                      case hQ45z10 => exact fun _ _ _ h => h
                      case hw45z10 => rfl
                      case hy45z10 => (intro w hSw; (try dsimp only at hSw); go_simp; (try with_reducible rfl))
                      (try simp only [Act.put, List.setIfInBounds_toArray, List.set_cons_zero, List.set_cons_succ])
                      refine wpAnyH_take (i := 46) (oi := ?oi46z10) (v := ?v46z10) ?hi46z10 (by as_aux_lemma => kernel_rfl) (by as_aux_lemma => kernel_rfl) (by as_aux_lemma => kernel_rfl) ?hQ46z10 (Or.inl ⟨?hw46z10, ?hy46z10⟩) (by assumption) ?r46z10
                      case hi46z10 => (simp only [List.getElem?_toArray, List.getElem?_cons_succ, List.getElem?_cons_zero]; rfl)
                      case hQ46z10 => exact fun _ _ _ h => h
                      case hw46z10 => rfl
                      case hy46z10 => (intro w hSw; (try dsimp only at hSw); go_simp; (try with_reducible rfl))
                      (try simp only [Act.put, List.setIfInBounds_toArray, List.set_cons_zero, List.set_cons_succ])
                      refine wpAnyH_take (i := 47) (oi := ?oi47z10) (v := ?v47z10) ?hi47z10 (by as_aux_lemma => kernel_rfl) (by as_aux_lemma => kernel_rfl) (by as_aux_lemma => kernel_rfl) ?hQ47z10 (Or.inl ⟨?hw47z10, ?hy47z10⟩) (by assumption) ?r47z10
                      case hi47z10 => (simp only [List.getElem?_toArray, List.getElem?_cons_succ, List.getElem?_cons_zero]; rfl)
                      case hQ47z10 => exact fun _ _ _ h => h
                      case hw47z10 => rfl
                      case hy47z10 => (intro w hSw; (try dsimp only at hSw); go_simp; (try with_reducible rfl))
                      (try simp only [Act.put, List.setIfInBounds_toArray, List.set_cons_zero, List.set_cons_succ])
                      as_aux_lemma =>
                      refine wpAnyH_ready (rs := [48]) (by as_aux_lemma => kernel_rfl) (by simp) ?_
                      refine AllReadyH.cons (o := ?oi48z10) ?hi48z10 ?hc48z10 AllReadyH.nil
                      case hi48z10 => (simp only [List.getElem?_toArray, List.getElem?_cons_succ, List.getElem?_cons_zero]; rfl)
                      intro K hK
                      go_simp
                      go_at_call 64
                      refine (span1_any A n c B m d x _).mono ?_
                      rintro e w4 ⟨rfl, hqn⟩
                      refine hK.out _ _ ?hS48z10 (fun hHeld => ?r48z10)
                      case hS48z10 => exact ⟨below_all hHeld.1 hqn, block_keep hqn (lt_of_heap hHeld.2.1) hHeld.2.1, block_keep hqn (lt_of_heap hHeld.2.2.1) hHeld.2.2.1, block_keep hqn (lt_of_heap hHeld.2.2.2.1) hHeld.2.2.2.1, block_keep hqn (lt_of_heap hHeld.2.2.2.2) hHeld.2.2.2.2⟩
                      clear hK K
                      (try simp only [Act.put, List.setIfInBounds_toArray, List.set_cons_zero, List.set_cons_succ])
                      as_aux_lemma =>
                      refine wpAnyH_take (i := 49) (oi := ?oi49z10) (v := ?v49z10) ?hi49z10 (by as_aux_lemma => kernel_rfl) (by as_aux_lemma => kernel_rfl) (by as_aux_lemma => kernel_rfl) ?hQ49z10 (Or.inl ⟨?hw49z10, ?hy49z10⟩) (by assumption) ?r49z10
                      case hi49z10 => (simp only [List.getElem?_toArray, List.getElem?_cons_succ, List.getElem?_cons_zero]; rfl)
                      case hQ49z10 => exact fun _ _ _ h => h
                      case hw49z10 => rfl
                      case hy49z10 => (intro w hSw; (try dsimp only at hSw); go_simp; (try with_reducible rfl))
                      (try simp only [Act.put, List.setIfInBounds_toArray, List.set_cons_zero, List.set_cons_succ])
                      refine wpAnyH_take (i := 50) (oi := ?oi50z10) (v := ?v50z10) ?hi50z10 (by as_aux_lemma => kernel_rfl) (by as_aux_lemma => kernel_rfl) (by as_aux_lemma => kernel_rfl) ?hQ50z10 (Or.inl ⟨?hw50z10, ?hy50z10⟩) (by assumption) ?r50z10
                      case hi50z10 => (simp only [List.getElem?_toArray, List.getElem?_cons_succ, List.getElem?_cons_zero]; rfl)
                      case hQ50z10 => exact fun _ _ _ h => h
                      case hw50z10 => rfl
                      case hy50z10 => (intro w hSw; (try dsimp only at hSw); go_simp; (try with_reducible rfl))
                      (try simp only [Act.put, List.setIfInBounds_toArray, List.set_cons_zero, List.set_cons_succ])
                      refine wpAnyH_take (i := 51) (oi := ?oi51z10) (v := ?v51z10) ?hi51z10 (by as_aux_lemma => kernel_rfl) (by as_aux_lemma => kernel_rfl) (by as_aux_lemma => kernel_rfl) ?hQ51z10 (Or.inl ⟨?hw51z10, ?hy51z10⟩) (by assumption) ?r51z10
                      case hi51z10 => (simp only [List.getElem?_toArray, List.getElem?_cons_succ, List.getElem?_cons_zero]; rfl)
                      case hQ51z10 => exact fun _ _ _ h => h
                      case hw51z10 => rfl
                      case hy51z10 => (intro w hSw; (try dsimp only at hSw); go_simp; (try with_reducible rfl))
                      (try simp only [Act.put, List.setIfInBounds_toArray, List.set_cons_zero, List.set_cons_succ])
                      refine wpAnyH_take (i := 52) (oi := ?oi52z10) (v := ?v52z10) ?hi52z10 (by as_aux_lemma => kernel_rfl) (by as_aux_lemma => kernel_rfl) (by as_aux_lemma => kernel_rfl) ?hQ52z10 (Or.inl ⟨?hw52z10, ?hy52z10⟩) (by assumption) ?r52z10
                      case hi52z10 => (simp only [List.getElem?_toArray, List.getElem?_cons_succ, List.getElem?_cons_zero]; rfl)
                      case hQ52z10 => exact fun _ _ _ h => h
                      case hw52z10 => rfl
                      case hy52z10 => (intro w hSw; (try dsimp only at hSw); go_simp; (try with_reducible rfl))
                      (try simp only [Act.put, List.setIfInBounds_toArray, List.set_cons_zero, List.set_cons_succ])
                      refine wpAnyH_take (i := 53) (oi := ?oi53z10) (v := ?v53z10) ?hi53z10 (by as_aux_lemma => kernel_rfl) (by as_aux_lemma => kernel_rfl) (by as_aux_lemma => kernel_rfl) ?hQ53z10 (Or.inl ⟨?hw53z10, ?hy53z10⟩) (by assumption) ?r53z10
                      case hi53z10 => (simp only [List.getElem?_toArray, List.getElem?_cons_succ, List.getElem?_cons_zero]; rfl)
                      case hQ53z10 => exact fun _ _ _ h => h
                      case hw53z10 => rfl
                      case hy53z10 => (intro w hSw; (try dsimp only at hSw); go_simp; (try with_reducible rfl))
                      (try simp only [Act.put, List.setIfInBounds_toArray, List.set_cons_zero, List.set_cons_succ])
                      refine wpAnyH_take (i := 54) (oi := ?oi54z10) (v := ?v54z10) ?hi54z10 (by as_aux_lemma => kernel_rfl) (by as_aux_lemma => kernel_rfl) (by as_aux_lemma => kernel_rfl) ?hQ54z10 (Or.inl ⟨?hw54z10, ?hy54z10⟩) (by assumption) ?r54z10
                      case hi54z10 => (simp only [List.getElem?_toArray, List.getElem?_cons_succ, List.getElem?_cons_zero]; rfl)
                      case hQ54z10 => exact fun _ _ _ h => h
                      case hw54z10 => rfl
                      case hy54z10 => (intro w hSw; (try dsimp only at hSw); go_simp; (try with_reducible rfl))
                      (try simp only [Act.put, List.setIfInBounds_toArray, List.set_cons_zero, List.set_cons_succ])
                      refine wpAnyH_take (i := 55) (oi := ?oi55z10) (v := ?v55z10) ?hi55z10 (by as_aux_lemma => kernel_rfl) (by as_aux_lemma => kernel_rfl) (by as_aux_lemma => kernel_rfl) ?hQ55z10 (Or.inl ⟨?hw55z10, ?hy55z10⟩) (by assumption) ?r55z10
                      case hi55z10 => (simp only [List.getElem?_toArray, List.getElem?_cons_succ, List.getElem?_cons_zero]; rfl)
                      case hQ55z10 => exact fun _ _ _ h => h
                      case hw55z10 => rfl
                      case hy55z10 => (intro w hSw; (try dsimp only at hSw); go_simp; (try with_reducible rfl))
                      (try simp only [Act.put, List.setIfInBounds_toArray, List.set_cons_zero, List.set_cons_succ])
                      as_aux_lemma =>
                      refine wpAnyH_take (i := 56) (oi := ?oi56z10) (v := ?v56z10) ?hi56z10 (by as_aux_lemma => kernel_rfl) (by as_aux_lemma => kernel_rfl) (by as_aux_lemma => kernel_rfl) ?hQ56z10 (Or.inl ⟨?hw56z10, ?hy56z10⟩) (by assumption) ?r56z10
                      case hi56z10 => (simp only [List.getElem?_toArray, List.getElem?_cons_succ, List.getElem?_cons_zero]; rfl)
                      case hQ56z10 => exact fun _ _ _ h => h
                      case hw56z10 => rfl
                      case hy56z10 => (intro w hSw; (try dsimp only at hSw); go_simp; (try with_reducible rfl))
                      (try simp only [Act.put, List.setIfInBounds_toArray, List.set_cons_zero, List.set_cons_succ])
                      refine wpAnyH_take (i := 57) (oi := ?oi57z10) (v := ?v57z10) ?hi57z10 (by as_aux_lemma => kernel_rfl) (by as_aux_lemma => kernel_rfl) (by as_aux_lemma => kernel_rfl) ?hQ57z10 (Or.inl ⟨?hw57z10, ?hy57z10⟩) (by assumption) ?r57z10
                      case hi57z10 => (simp only [List.getElem?_toArray, List.getElem?_cons_succ, List.getElem?_cons_zero]; rfl)
                      case hQ57z10 => exact fun _ _ _ h => h
                      case hw57z10 => rfl
                      case hy57z10 => (intro w hSw; (try dsimp only at hSw); go_simp; (try with_reducible rfl))
                      (try simp only [Act.put, List.setIfInBounds_toArray, List.set_cons_zero, List.set_cons_succ])
                      refine wpAnyH_take (i := 58) (oi := ?oi58z10) (v := ?v58z10) ?hi58z10 (by as_aux_lemma => kernel_rfl) (by as_aux_lemma => kernel_rfl) (by as_aux_lemma => kernel_rfl) ?hQ58z10 (Or.inl ⟨?hw58z10, ?hy58z10⟩) (by assumption) ?r58z10
                      case hi58z10 => (simp only [List.getElem?_toArray, List.getElem?_cons_succ, List.getElem?_cons_zero]; rfl)
                      case hQ58z10 => exact fun _ _ _ h => h
                      case hw58z10 => rfl
                      case hy58z10 => (intro w hSw; (try dsimp only at hSw); go_simp; (try with_reducible rfl))
                      (try simp only [Act.put, List.setIfInBounds_toArray, List.set_cons_zero, List.set_cons_succ])
                      refine wpAnyH_take (i := 59) (oi := ?oi59z10) (v := undef) ?hi59z10 (by as_aux_lemma => kernel_rfl) (by as_aux_lemma => kernel_rfl) (by as_aux_lemma => kernel_rfl) ?hQ59z10 (Or.inr ⟨?hw59z10, rfl⟩) (by assumption) ?r59z10
                      case hi59z10 => (simp only [List.getElem?_toArray, List.getElem?_cons_succ, List.getElem?_cons_zero]; rfl)
                      case hQ59z10 => exact fun _ _ _ h => h
                      case hw59z10 => rfl
                      (try simp only [Act.put, List.setIfInBounds_toArray, List.set_cons_zero, List.set_cons_succ])
                      refine wpAnyH_take (i := 60) (oi := ?oi60z10) (v := undef) ?hi60z10 (by as_aux_lemma => kernel_rfl) (by as_aux_lemma => kernel_rfl) (by as_aux_lemma => kernel_rfl) ?hQ60z10 (Or.inr ⟨?hw60z10, rfl⟩) (by assumption) ?r60z10
                      case hi60z10 => (simp only [List.getElem?_toArray, List.getElem?_cons_succ, List.getElem?_cons_zero]; rfl)
                      case hQ60z10 => exact fun _ _ _ h => h
                      case hw60z10 => rfl
                      (try simp only [Act.put, List.setIfInBounds_toArray, List.set_cons_zero, List.set_cons_succ])
                      refine wpAnyH_take (i := 61) (oi := ?oi61z10) (v := undef) ?hi61z10 (by as_aux_lemma => kernel_rfl) (by as_aux_lemma => kernel_rfl) (by as_aux_lemma => kernel_rfl) ?hQ61z10 (Or.inr ⟨?hw61z10, rfl⟩) (by assumption) ?r61z10
                      case hi61z10 => (simp only [List.getElem?_toArray, List.getElem?_cons_succ, List.getElem?_cons_zero]; rfl)
                      case hQ61z10 => exact fun _ _ _ h => h
                      case hw61z10 => rfl
                      (try simp only [Act.put, List.setIfInBounds_toArray, List.set_cons_zero, List.set_cons_succ])
                      refine wpAnyH_take (i := 62) (oi := ?oi62z10) (v := ?v62z10) ?hi62z10 (by as_aux_lemma => kernel_rfl) (by as_aux_lemma => kernel_rfl) (by as_aux_lemma => kernel_rfl) ?hQ62z10 (Or.inl ⟨?hw62z10, ?hy62z10⟩) (by assumption) ?r62z10
                      case hi62z10 => (simp only [List.getElem?_toArray, List.getElem?_cons_succ, List.getElem?_cons_zero]; rfl)
                      case hQ62z10 => exact fun _ _ _ h => h
                      case hw62z10 => rfl
                      case hy62z10 => (intro w hSw; (try dsimp only at hSw); go_simp; (try with_reducible rfl))
                      (try simp only [Act.put, List.setIfInBounds_toArray, List.set_cons_zero, List.set_cons_succ])
                      refine wpAnyH_take (i := 63) (oi := ?oi63z10) (v := ?v63z10) ?hi63z10 (by as_aux_lemma => kernel_rfl) (by as_aux_lemma => kernel_rfl) (by as_aux_lemma => kernel_rfl) ?hQ63z10 (Or.inl ⟨?hw63z10, ?hy63z10⟩) (by assumption) ?r63z10
                      case hi63z10 => (simp only [List.getElem?_toArray, List.getElem?_cons_succ, List.getElem?_cons_zero]; rfl)
                      case hQ63z10 => exact fun _ _ _ h => h
                      case hw63z10 => rfl
                      case hy63z10 => (intro w hSw; (try dsimp only at hSw); go_simp; (try with_reducible rfl))
                      (try simp only [Act.put, List.setIfInBounds_toArray, List.set_cons_zero, List.set_cons_succ])
                      as_aux_lemma =>
                      refine wpAnyH_take (i := 64) (oi := ?oi64z10) (v := ?v64z10) ?hi64z10 (by as_aux_lemma => kernel_rfl) (by as_aux_lemma => kernel_rfl) (by as_aux_lemma => kernel_rfl) ?hQ64z10 (Or.inl ⟨?hw64z10, ?hy64z10⟩) (by assumption) ?r64z10
                      case hi64z10 => (simp only [List.getElem?_toArray, List.getElem?_cons_succ, List.getElem?_cons_zero]; rfl)
                      case hQ64z10 => exact fun _ _ _ h => h
                      case hw64z10 => rfl
                      case hy64z10 => (intro w hSw; (try dsimp only at hSw); go_simp; (try with_reducible rfl))
                      (try simp only [Act.put, List.setIfInBounds_toArray, List.set_cons_zero, List.set_cons_succ])
                      refine wpAnyH_done (by as_aux_lemma => kernel_rfl) ?_ _
                      obtain ⟨Q0, Q1, Q2, Q3, Q5⟩ := hHeld
                      clear ra0 ra1 ra2 ra3 ra4 ra5 ra6 ra7 rn0 rn1 rn2 rn3 rm0 rm1 rm2 rm3 rs0 rs1 rs2 rs3 hw hh tb1 tb2 xlo xhi
                      have cn0 := cell_heap (j := 0) Q2 rfl
                      have cn1 := cell_heap (j := 1) Q2 rfl
                      have cn2 := cell_heap (j := 2) Q2 rfl
                      have cn3 := cell_heap (j := 3) Q2 rfl
                      have cm0 := cell_heap (j := 0) Q5 rfl
                      have cm1 := cell_heap (j := 1) Q5 rfl
                      have cm2 := cell_heap (j := 2) Q5 rfl
                      have cm3 := cell_heap (j := 3) Q5 rfl
                      have fn0 := frozen_pa Q2 0
                      have fn1 := frozen_pa Q2 1
                      have fn2 := frozen_pa Q2 2
                      have fn3 := frozen_pa Q2 3
                      have cs := cell_heap (j := 1) Q3 rfl
                      have fs := frozen_pa Q3 1
                      have R0 := Lib.hid Q0
                      have R1 := Lib.hid Q1
                      have R2 := Lib.hid Q2
                      have R3 := Lib.hid Q3
                      have R5 := Lib.hid Q5
                      clear Q0 Q1 Q2 Q3 Q5
                      have e1 : ¬ M = N := by have := HM.out; omega
                      have e2 : ¬ N = M := by have := HM.out; omega
                      have e3 : ¬ M = N + 1 := by have := HM.out; omega
                      have e4 : ¬ N + 1 = M := by have := HM.out; omega
                      have hn0 : w.heap.size ≤ N := by have := HN.out; omega
                      have hn1 : w.heap.size ≤ N + 1 := by have := HN.out; omega
                      have hn2 : w.heap.size ≠ N := by have := HN.out; omega
                      have hn3 : w.heap.size ≠ N + 1 := by have := HN.out; omega
                      go_wp2_with fail
                      go_roundg (60 - (k + 1))
                      case measure => have := HK.out.1; omega
                      case rel =>
                        refine ⟨k + 1, tick + dt, true, a1, false, true, s2, false, ((tick + dt + x 4)), by omega, by go_num, rfl, Lib.hid ⟨by omega, HT2'.out.1, HT2'.out.2⟩, Lib.hid ⟨fun _ => rfl, HS.out.2.1, fun h => by cases h⟩, ?_, ?_, ?_, ?_⟩
                        · exact Lib.hid (put4_below (below_set R0.out (N + 1) 1 hn1 _) hn0 _ _ _ _)
                        · exact Lib.hid (put4_other (heap_setOther R1.out hn3 1 _) hn2 _ _ _ _)
                        · exact Lib.hid (put4_heap (heap_setOther R2.out (by omega) 1 _) _ _ _ _)
                        · exact Lib.hid (put4_other (heap_setSame R3.out 1 _) (by omega) _ _ _ _)
                  · as_aux_lemma =>
                      obtain rfl : s3 = false := by cases hs : s3; rfl; exact absurd (HS.out.2.2 hs) (by simp)
                      obtain rfl : s2 = false := by cases hs : s2; rfl; exact absurd (HS.out.2.1 hs) (by simp)
                      have tl := HTl.out
                      unfold TailOk at tl
                      have xlo : 1 ≤ x 5 := by omega
                      have xhi : x 5 ≤ 1099511627776 := by omega
                      clear tl
                      have tb1 : 0 ≤ tick + dt := HT2'.out.1
                      have tb2 : tick + dt ≤ 68679894317400064 := by have := HT2'.out.2; omega
                      rw [wrap_ok (by omega) (by omega)] at h2
                      subst h2
                      have hh : haltedB t false (tick + dt) = false := by unfold haltedB; simp; omega
                      clear hn
                      have hw : IntKind.i64.wrap (tick + dt + x 5) = tick + dt + x 5 := IntWalk.i64_in _ (by omega)
                      have ra0 : ∀ W : World, W.heap[w.heap.size]? = some (.cells #[.slice A n c, .slice B m d, .int .i64 (x 0), .int .i64 (x 1), .int .i64 (x 2), .int .i64 (x 3), .int .i64 (x 4), .int .i64 (x 5)] 35 (0, 0)) → W.cell? ⟨w.heap.size, 0, none⟩ = some (.slice A n c) := fun W h => cell_heap h rfl
                      have ra1 : ∀ W : World, W.heap[w.heap.size]? = some (.cells #[.slice A n c, .slice B m d, .int .i64 (x 0), .int .i64 (x 1), .int .i64 (x 2), .int .i64 (x 3), .int .i64 (x 4), .int .i64 (x 5)] 35 (0, 0)) → W.cell? ⟨w.heap.size, 1, none⟩ = some (.slice B m d) := fun W h => cell_heap h rfl
                      have ra2 : ∀ W : World, W.heap[w.heap.size]? = some (.cells #[.slice A n c, .slice B m d, .int .i64 (x 0), .int .i64 (x 1), .int .i64 (x 2), .int .i64 (x 3), .int .i64 (x 4), .int .i64 (x 5)] 35 (0, 0)) → W.cell? ⟨w.heap.size, 2, none⟩ = some (.int .i64 (x 0)) := fun W h => cell_heap h rfl
                      have ra3 : ∀ W : World, W.heap[w.heap.size]? = some (.cells #[.slice A n c, .slice B m d, .int .i64 (x 0), .int .i64 (x 1), .int .i64 (x 2), .int .i64 (x 3), .int .i64 (x 4), .int .i64 (x 5)] 35 (0, 0)) → W.cell? ⟨w.heap.size, 3, none⟩ = some (.int .i64 (x 1)) := fun W h => cell_heap h rfl
                      have ra4 : ∀ W : World, W.heap[w.heap.size]? = some (.cells #[.slice A n c, .slice B m d, .int .i64 (x 0), .int .i64 (x 1), .int .i64 (x 2), .int .i64 (x 3), .int .i64 (x 4), .int .i64 (x 5)] 35 (0, 0)) → W.cell? ⟨w.heap.size, 4, none⟩ = some (.int .i64 (x 2)) := fun W h => cell_heap h rfl
                      have ra5 : ∀ W : World, W.heap[w.heap.size]? = some (.cells #[.slice A n c, .slice B m d, .int .i64 (x 0), .int .i64 (x 1), .int .i64 (x 2), .int .i64 (x 3), .int .i64 (x 4), .int .i64 (x 5)] 35 (0, 0)) → W.cell? ⟨w.heap.size, 5, none⟩ = some (.int .i64 (x 3)) := fun W h => cell_heap h rfl
                      have ra6 : ∀ W : World, W.heap[w.heap.size]? = some (.cells #[.slice A n c, .slice B m d, .int .i64 (x 0), .int .i64 (x 1), .int .i64 (x 2), .int .i64 (x 3), .int .i64 (x 4), .int .i64 (x 5)] 35 (0, 0)) → W.cell? ⟨w.heap.size, 6, none⟩ = some (.int .i64 (x 4)) := fun W h => cell_heap h rfl
                      have ra7 : ∀ W : World, W.heap[w.heap.size]? = some (.cells #[.slice A n c, .slice B m d, .int .i64 (x 0), .int .i64 (x 1), .int .i64 (x 2), .int .i64 (x 3), .int .i64 (x 4), .int .i64 (x 5)] 35 (0, 0)) → W.cell? ⟨w.heap.size, 7, none⟩ = some (.int .i64 (x 5)) := fun W h => cell_heap h rfl
                      have rn0 : ∀ W : World, W.heap[N]? = some (.cells #[.bool u0, .bool false, .int .i64 t, .bool false] 87 (0, 0)) → W.cell? ⟨N, 0, none⟩ = some (.bool u0) := fun W h => cell_heap h rfl
                      have rn1 : ∀ W : World, W.heap[N]? = some (.cells #[.bool u0, .bool false, .int .i64 t, .bool false] 87 (0, 0)) → W.cell? ⟨N, 1, none⟩ = some (.bool false) := fun W h => cell_heap h rfl
                      have rn2 : ∀ W : World, W.heap[N]? = some (.cells #[.bool u0, .bool false, .int .i64 t, .bool false] 87 (0, 0)) → W.cell? ⟨N, 2, none⟩ = some (.int .i64 t) := fun W h => cell_heap h rfl
                      have rn3 : ∀ W : World, W.heap[N]? = some (.cells #[.bool u0, .bool false, .int .i64 t, .bool false] 87 (0, 0)) → W.cell? ⟨N, 3, none⟩ = some (.bool false) := fun W h => cell_heap h rfl
                      have rm0 : ∀ W : World, W.heap[M]? = some (.cells #[.bool true, .bool true, .int .i64 (tick + dt + x 5), .bool false] 87 (0, 0)) → W.cell? ⟨M, 0, none⟩ = some (.bool true) := fun W h => cell_heap h rfl
                      have rm1 : ∀ W : World, W.heap[M]? = some (.cells #[.bool true, .bool true, .int .i64 (tick + dt + x 5), .bool false] 87 (0, 0)) → W.cell? ⟨M, 1, none⟩ = some (.bool true) := fun W h => cell_heap h rfl
                      have rm2 : ∀ W : World, W.heap[M]? = some (.cells #[.bool true, .bool true, .int .i64 (tick + dt + x 5), .bool false] 87 (0, 0)) → W.cell? ⟨M, 2, none⟩ = some (.int .i64 (tick + dt + x 5)) := fun W h => cell_heap h rfl
                      have rm3 : ∀ W : World, W.heap[M]? = some (.cells #[.bool true, .bool true, .int .i64 (tick + dt + x 5), .bool false] 87 (0, 0)) → W.cell? ⟨M, 3, none⟩ = some (.bool false) := fun W h => cell_heap h rfl
                      have rs0 : ∀ W : World, W.heap[N + 1]? = some (.cells #[.bool false, .bool s1, .bool false, .bool false] 95 (0, 0)) → W.cell? ⟨N + 1, 0, none⟩ = some (.bool false) := fun W h => cell_heap h rfl
                      have rs1 : ∀ W : World, W.heap[N + 1]? = some (.cells #[.bool false, .bool s1, .bool false, .bool false] 95 (0, 0)) → W.cell? ⟨N + 1, 1, none⟩ = some (.bool s1) := fun W h => cell_heap h rfl
                      have rs2 : ∀ W : World, W.heap[N + 1]? = some (.cells #[.bool false, .bool s1, .bool false, .bool false] 95 (0, 0)) → W.cell? ⟨N + 1, 2, none⟩ = some (.bool false) := fun W h => cell_heap h rfl
                      have rs3 : ∀ W : World, W.heap[N + 1]? = some (.cells #[.bool false, .bool s1, .bool false, .bool false] 95 (0, 0)) → W.cell? ⟨N + 1, 3, none⟩ = some (.bool false) := fun W h => cell_heap h rfl
                      refine wp_region_held_drew (S := (fun w' => Below w.heap.size w w' ∧ w'.heap[w.heap.size]? = some (.cells #[.slice A n c, .slice B m d, .int .i64 (x 0), .int .i64 (x 1), .int .i64 (x 2), .int .i64 (x 3), .int .i64 (x 4), .int .i64 (x 5)] 35 (0, 0)) ∧ w'.heap[N]? = some (.cells #[.bool u0, .bool false, .int .i64 t, .bool false] 87 (0, 0)) ∧ w'.heap[N + 1]? = some (.cells #[.bool false, .bool s1, .bool false, .bool false] 95 (0, 0)) ∧ w'.heap[M]? = some (.cells #[.bool true, .bool true, .int .i64 (tick + dt + x 5), .bool false] 87 (0, 0)))) (by kernel_rfl) ?hSz20 (fun hHeld => ?rz20)
                      case hSz20 => exact ⟨drew_below BX.out, drew_heap X0.out, drew_heap X1.out, drew_heap X2.out, drew_heap X3.out⟩
                      show wpAnyH Try.prog .any _ _ _ 65 #[false, false, false, false, false, false, false, false, false, false, false, false, false, false, false, false, false, false, false, false, false, false, false, false, false, false, false, false, false, false, false, false, false, false, false, false, false, false, false, false, false, false, false, false, false, false, false, false, false, false, false, false, false, false, false, false, false, false, false, false, false, false, false, false, false] _ _
                      refine wpAnyH_take (i := 0) (oi := ?oi0z20) (v := ?v0z20) ?hi0z20 (by as_aux_lemma => kernel_rfl) (by as_aux_lemma => kernel_rfl) (by as_aux_lemma => kernel_rfl) ?hQ0z20 (Or.inl ⟨?hw0z20, ?hy0z20⟩) (by assumption) ?r0z20
                      case hi0z20 => (simp only [List.getElem?_toArray, List.getElem?_cons_succ, List.getElem?_cons_zero]; rfl)
                      case hQ0z20 => exact fun _ _ _ h => h
                      case hw0z20 => rfl
                      case hy0z20 => (intro w hSw; (try dsimp only at hSw); go_simp; (try with_reducible rfl))
                      (try simp only [Act.put, List.setIfInBounds_toArray, List.set_cons_zero, List.set_cons_succ])
                      refine wpAnyH_take (i := 1) (oi := ?oi1z20) (v := ?v1z20) ?hi1z20 (by as_aux_lemma => kernel_rfl) (by as_aux_lemma => kernel_rfl) (by as_aux_lemma => kernel_rfl) ?hQ1z20 (Or.inl ⟨?hw1z20, ?hy1z20⟩) (by assumption) ?r1z20
                      case hi1z20 => (simp only [List.getElem?_toArray, List.getElem?_cons_succ, List.getElem?_cons_zero]; rfl)
                      case hQ1z20 => exact fun _ _ _ h => h
                      case hw1z20 => rfl
                      case hy1z20 => (intro w hSw; (try dsimp only at hSw); go_simp; (try with_reducible rfl))
                      (try simp only [Act.put, List.setIfInBounds_toArray, List.set_cons_zero, List.set_cons_succ])
                      refine wpAnyH_take (i := 2) (oi := ?oi2z20) (v := ?v2z20) ?hi2z20 (by as_aux_lemma => kernel_rfl) (by as_aux_lemma => kernel_rfl) (by as_aux_lemma => kernel_rfl) ?hQ2z20 (Or.inl ⟨?hw2z20, ?hy2z20⟩) (by assumption) ?r2z20
                      case hi2z20 => (simp only [List.getElem?_toArray, List.getElem?_cons_succ, List.getElem?_cons_zero]; rfl)
                      case hQ2z20 => exact fun _ _ _ h => h
                      case hw2z20 => rfl
                      case hy2z20 => (intro w hSw; (try dsimp only at hSw); go_simp; (try with_reducible rfl))
                      (try simp only [Act.put, List.setIfInBounds_toArray, List.set_cons_zero, List.set_cons_succ])
                      refine wpAnyH_take (i := 3) (oi := ?oi3z20) (v := ?v3z20) ?hi3z20 (by as_aux_lemma => kernel_rfl) (by as_aux_lemma => kernel_rfl) (by as_aux_lemma => kernel_rfl) ?hQ3z20 (Or.inl ⟨?hw3z20, ?hy3z20⟩) (by assumption) ?r3z20
                      case hi3z20 => (simp only [List.getElem?_toArray, List.getElem?_cons_succ, List.getElem?_cons_zero]; rfl)
                      case hQ3z20 => exact fun _ _ _ h => h
                      case hw3z20 => rfl
                      case hy3z20 => (intro w hSw; (try dsimp only at hSw); go_simp; (try with_reducible rfl))
                      (try simp only [Act.put, List.setIfInBounds_toArray, List.set_cons_zero, List.set_cons_succ])
                      refine wpAnyH_take (i := 4) (oi := ?oi4z20) (v := ?v4z20) ?hi4z20 (by as_aux_lemma => kernel_rfl) (by as_aux_lemma => kernel_rfl) (by as_aux_lemma => kernel_rfl) ?hQ4z20 (Or.inl ⟨?hw4z20, ?hy4z20⟩) (by assumption) ?r4z20
                      case hi4z20 => (simp only [List.getElem?_toArray, List.getElem?_cons_succ, List.getElem?_cons_zero]; rfl)
                      case hQ4z20 => exact fun _ _ _ h => h
                      case hw4z20 => rfl
                      case hy4z20 => (intro w hSw; (try dsimp only at hSw); go_simp; (try with_reducible rfl))
                      (try simp only [Act.put, List.setIfInBounds_toArray, List.set_cons_zero, List.set_cons_succ])
                      refine wpAnyH_take (i := 5) (oi := ?oi5z20) (v := ?v5z20) ?hi5z20 (by as_aux_lemma => kernel_rfl) (by as_aux_lemma => kernel_rfl) (by as_aux_lemma => kernel_rfl) ?hQ5z20 (Or.inl ⟨?hw5z20, ?hy5z20⟩) (by assumption) ?r5z20
                      case hi5z20 => (simp only [List.getElem?_toArray, List.getElem?_cons_succ, List.getElem?_cons_zero]; rfl)
                      case hQ5z20 => exact fun _ _ _ h => h
                      case hw5z20 => rfl
                      case hy5z20 => (intro w hSw; (try dsimp only at hSw); go_simp; (try with_reducible rfl))
                      (try simp only [Act.put, List.setIfInBounds_toArray, List.set_cons_zero, List.set_cons_succ])
                      refine wpAnyH_take (i := 6) (oi := ?oi6z20) (v := ?v6z20) ?hi6z20 (by as_aux_lemma => kernel_rfl) (by as_aux_lemma => kernel_rfl) (by as_aux_lemma => kernel_rfl) ?hQ6z20 (Or.inl ⟨?hw6z20, ?hy6z20⟩) (by assumption) ?r6z20
                      case hi6z20 => (simp only [List.getElem?_toArray, List.getElem?_cons_succ, List.getElem?_cons_zero]; rfl)
                      case hQ6z20 => exact fun _ _ _ h => h
                      case hw6z20 => rfl
                      case hy6z20 => (intro w hSw; (try dsimp only at hSw); go_simp; (try with_reducible rfl))
                      (try simp only [Act.put, List.setIfInBounds_toArray, List.set_cons_zero, List.set_cons_succ])
                      refine wpAnyH_take (i := 7) (oi := ?oi7z20) (v := ?v7z20) ?hi7z20 (by as_aux_lemma => kernel_rfl) (by as_aux_lemma => kernel_rfl) (by as_aux_lemma => kernel_rfl) ?hQ7z20 (Or.inl ⟨?hw7z20, ?hy7z20⟩) (by assumption) ?r7z20
                      case hi7z20 => (simp only [List.getElem?_toArray, List.getElem?_cons_succ, List.getElem?_cons_zero]; rfl)
                      case hQ7z20 => exact fun _ _ _ h => h
                      case hw7z20 => rfl
                      case hy7z20 => (intro w hSw; (try dsimp only at hSw); go_simp; (try with_reducible rfl))
                      (try simp only [Act.put, List.setIfInBounds_toArray, List.set_cons_zero, List.set_cons_succ])
                      as_aux_lemma =>
                      refine wpAnyH_take (i := 8) (oi := ?oi8z20) (v := ?v8z20) ?hi8z20 (by as_aux_lemma => kernel_rfl) (by as_aux_lemma => kernel_rfl) (by as_aux_lemma => kernel_rfl) ?hQ8z20 (Or.inl ⟨?hw8z20, ?hy8z20⟩) (by assumption) ?r8z20
                      case hi8z20 => (simp only [List.getElem?_toArray, List.getElem?_cons_succ, List.getElem?_cons_zero]; rfl)
                      case hQ8z20 => exact fun _ _ _ h => h
                      case hw8z20 => rfl
                      case hy8z20 => (intro w hSw; (try dsimp only at hSw); go_simp; (try with_reducible rfl))
                      (try simp only [Act.put, List.setIfInBounds_toArray, List.set_cons_zero, List.set_cons_succ])
                      refine wpAnyH_take (i := 9) (oi := ?oi9z20) (v := ?v9z20) ?hi9z20 (by as_aux_lemma => kernel_rfl) (by as_aux_lemma => kernel_rfl) (by as_aux_lemma => kernel_rfl) ?hQ9z20 (Or.inl ⟨?hw9z20, ?hy9z20⟩) (by assumption) ?r9z20
                      case hi9z20 => (simp only [List.getElem?_toArray, List.getElem?_cons_succ, List.getElem?_cons_zero]; rfl)
                      case hQ9z20 => exact fun _ _ _ h => h
                      case hw9z20 => rfl
                      case hy9z20 => (intro w hSw; (try dsimp only at hSw); go_simp; (try with_reducible rfl))
                      (try simp only [Act.put, List.setIfInBounds_toArray, List.set_cons_zero, List.set_cons_succ])
                      refine wpAnyH_take (i := 10) (oi := ?oi10z20) (v := ?v10z20) ?hi10z20 (by as_aux_lemma => kernel_rfl) (by as_aux_lemma => kernel_rfl) (by as_aux_lemma => kernel_rfl) ?hQ10z20 (Or.inl ⟨?hw10z20, ?hy10z20⟩) (by assumption) ?r10z20
                      case hi10z20 => (simp only [List.getElem?_toArray, List.getElem?_cons_succ, List.getElem?_cons_zero]; rfl)
                      case hQ10z20 => exact fun _ _ _ h => h
                      case hw10z20 => rfl
                      case hy10z20 => (intro w hSw; (try dsimp only at hSw); go_simp; (try with_reducible rfl))
                      (try simp only [Act.put, List.setIfInBounds_toArray, List.set_cons_zero, List.set_cons_succ])
                      refine wpAnyH_take (i := 11) (oi := ?oi11z20) (v := ?v11z20) ?hi11z20 (by as_aux_lemma => kernel_rfl) (by as_aux_lemma => kernel_rfl) (by as_aux_lemma => kernel_rfl) ?hQ11z20 (Or.inl ⟨?hw11z20, ?hy11z20⟩) (by assumption) ?r11z20
                      case hi11z20 => (simp only [List.getElem?_toArray, List.getElem?_cons_succ, List.getElem?_cons_zero]; rfl)
                      case hQ11z20 => exact fun _ _ _ h => h
                      case hw11z20 => rfl
                      case hy11z20 => (intro w hSw; (try dsimp only at hSw); go_simp; (try with_reducible rfl))
                      (try simp only [Act.put, List.setIfInBounds_toArray, List.set_cons_zero, List.set_cons_succ])
                      refine wpAnyH_take (i := 12) (oi := ?oi12z20) (v := ?v12z20) ?hi12z20 (by as_aux_lemma => kernel_rfl) (by as_aux_lemma => kernel_rfl) (by as_aux_lemma => kernel_rfl) ?hQ12z20 (Or.inl ⟨?hw12z20, ?hy12z20⟩) (by assumption) ?r12z20
                      case hi12z20 => (simp only [List.getElem?_toArray, List.getElem?_cons_succ, List.getElem?_cons_zero]; rfl)
                      case hQ12z20 => exact fun _ _ _ h => h
                      case hw12z20 => rfl
                      case hy12z20 => (intro w hSw; (try dsimp only at hSw); go_simp; (try with_reducible rfl))
                      (try simp only [Act.put, List.setIfInBounds_toArray, List.set_cons_zero, List.set_cons_succ])
                      refine wpAnyH_take (i := 13) (oi := ?oi13z20) (v := ?v13z20) ?hi13z20 (by as_aux_lemma => kernel_rfl) (by as_aux_lemma => kernel_rfl) (by as_aux_lemma => kernel_rfl) ?hQ13z20 (Or.inl ⟨?hw13z20, ?hy13z20⟩) (by assumption) ?r13z20
                      case hi13z20 => (simp only [List.getElem?_toArray, List.getElem?_cons_succ, List.getElem?_cons_zero]; rfl)
                      case hQ13z20 => exact fun _ _ _ h => h
                      case hw13z20 => rfl
                      case hy13z20 => (intro w hSw; (try dsimp only at hSw); go_simp; (try with_reducible rfl))
                      (try simp only [Act.put, List.setIfInBounds_toArray, List.set_cons_zero, List.set_cons_succ])
                      refine wpAnyH_take (i := 14) (oi := ?oi14z20) (v := ?v14z20) ?hi14z20 (by as_aux_lemma => kernel_rfl) (by as_aux_lemma => kernel_rfl) (by as_aux_lemma => kernel_rfl) ?hQ14z20 (Or.inl ⟨?hw14z20, ?hy14z20⟩) (by assumption) ?r14z20
                      case hi14z20 => (simp only [List.getElem?_toArray, List.getElem?_cons_succ, List.getElem?_cons_zero]; rfl)
                      case hQ14z20 => exact fun _ _ _ h => h
                      case hw14z20 => rfl
                      case hy14z20 => (intro w hSw; (try dsimp only at hSw); go_simp; (try with_reducible rfl))
                      (try simp only [Act.put, List.setIfInBounds_toArray, List.set_cons_zero, List.set_cons_succ])
                      refine wpAnyH_take (i := 15) (oi := ?oi15z20) (v := ?v15z20) ?hi15z20 (by as_aux_lemma => kernel_rfl) (by as_aux_lemma => kernel_rfl) (by as_aux_lemma => kernel_rfl) ?hQ15z20 (Or.inl ⟨?hw15z20, ?hy15z20⟩) (by assumption) ?r15z20
                      case hi15z20 => (simp only [List.getElem?_toArray, List.getElem?_cons_succ, List.getElem?_cons_zero]; rfl)
                      case hQ15z20 => exact fun _ _ _ h => h
                      case hw15z20 => rfl
                      case hy15z20 => (intro w hSw; (try dsimp only at hSw); go_simp; (try with_reducible rfl))
                      (try simp only [Act.put, List.setIfInBounds_toArray, List.set_cons_zero, List.set_cons_succ])
                      as_aux_lemma =>
                      refine wpAnyH_take (i := 16) (oi := ?oi16z20) (v := ?v16z20) ?hi16z20 (by as_aux_lemma => kernel_rfl) (by as_aux_lemma => kernel_rfl) (by as_aux_lemma => kernel_rfl) ?hQ16z20 (Or.inl ⟨?hw16z20, ?hy16z20⟩) (by assumption) ?r16z20
                      case hi16z20 => (simp only [List.getElem?_toArray, List.getElem?_cons_succ, List.getElem?_cons_zero]; rfl)
                      case hQ16z20 => exact fun _ _ _ h => h
                      case hw16z20 => rfl
                      case hy16z20 => (intro w hSw; (try dsimp only at hSw); go_simp; (try with_reducible rfl))
                      (try simp only [Act.put, List.setIfInBounds_toArray, List.set_cons_zero, List.set_cons_succ])
                      refine wpAnyH_take (i := 17) (oi := ?oi17z20) (v := ?v17z20) ?hi17z20 (by as_aux_lemma => kernel_rfl) (by as_aux_lemma => kernel_rfl) (by as_aux_lemma => kernel_rfl) ?hQ17z20 (Or.inl ⟨?hw17z20, ?hy17z20⟩) (by assumption) ?r17z20
                      case hi17z20 => (simp only [List.getElem?_toArray, List.getElem?_cons_succ, List.getElem?_cons_zero]; rfl)
                      case hQ17z20 => exact fun _ _ _ h => h
                      case hw17z20 => rfl
                      case hy17z20 => (intro w hSw; (try dsimp only at hSw); go_simp; (try with_reducible rfl))
                      (try simp only [Act.put, List.setIfInBounds_toArray, List.set_cons_zero, List.set_cons_succ])
                      refine wpAnyH_take (i := 18) (oi := ?oi18z20) (v := ?v18z20) ?hi18z20 (by as_aux_lemma => kernel_rfl) (by as_aux_lemma => kernel_rfl) (by as_aux_lemma => kernel_rfl) ?hQ18z20 (Or.inl ⟨?hw18z20, ?hy18z20⟩) (by assumption) ?r18z20
                      case hi18z20 => (simp only [List.getElem?_toArray, List.getElem?_cons_succ, List.getElem?_cons_zero]; rfl)
                      case hQ18z20 => exact fun _ _ _ h => h
                      case hw18z20 => rfl
                      case hy18z20 => (intro w hSw; (try dsimp only at hSw); go_simp; (try with_reducible rfl))
                      (try simp only [Act.put, List.setIfInBounds_toArray, List.set_cons_zero, List.set_cons_succ])
                      refine wpAnyH_take (i := 19) (oi := ?oi19z20) (v := ?v19z20) ?hi19z20 (by as_aux_lemma => kernel_rfl) (by as_aux_lemma => kernel_rfl) (by as_aux_lemma => kernel_rfl) ?hQ19z20 (Or.inl ⟨?hw19z20, ?hy19z20⟩) (by assumption) ?r19z20
                      case hi19z20 => (simp only [List.getElem?_toArray, List.getElem?_cons_succ, List.getElem?_cons_zero]; rfl)
                      case hQ19z20 => exact fun _ _ _ h => h
                      case hw19z20 => rfl
                      case hy19z20 => (intro w hSw; (try dsimp only at hSw); go_simp; (try with_reducible rfl))
                      (try simp only [Act.put, List.setIfInBounds_toArray, List.set_cons_zero, List.set_cons_succ])
                      refine wpAnyH_take (i := 20) (oi := ?oi20z20) (v := ?v20z20) ?hi20z20 (by as_aux_lemma => kernel_rfl) (by as_aux_lemma => kernel_rfl) (by as_aux_lemma => kernel_rfl) ?hQ20z20 (Or.inl ⟨?hw20z20, ?hy20z20⟩) (by assumption) ?r20z20
                      case hi20z20 => (simp only [List.getElem?_toArray, List.getElem?_cons_succ, List.getElem?_cons_zero]; rfl)
                      case hQ20z20 => exact fun _ _ _ h => h
                      case hw20z20 => rfl
                      case hy20z20 => (intro w hSw; (try dsimp only at hSw); go_simp; (try with_reducible rfl))
                      (try simp only [Act.put, List.setIfInBounds_toArray, List.set_cons_zero, List.set_cons_succ])
                      refine wpAnyH_take (i := 21) (oi := ?oi21z20) (v := ?v21z20) ?hi21z20 (by as_aux_lemma => kernel_rfl) (by as_aux_lemma => kernel_rfl) (by as_aux_lemma => kernel_rfl) ?hQ21z20 (Or.inl ⟨?hw21z20, ?hy21z20⟩) (by assumption) ?r21z20
                      case hi21z20 => (simp only [List.getElem?_toArray, List.getElem?_cons_succ, List.getElem?_cons_zero]; rfl)
                      case hQ21z20 => exact fun _ _ _ h => h
                      case hw21z20 => rfl
                      case hy21z20 => (intro w hSw; (try dsimp only at hSw); go_simp; (try with_reducible rfl))
                      (try simp only [Act.put, List.setIfInBounds_toArray, List.set_cons_zero, List.set_cons_succ])
                      refine wpAnyH_take (i := 22) (oi := ?oi22z20) (v := ?v22z20) ?hi22z20 (by as_aux_lemma => kernel_rfl) (by as_aux_lemma => kernel_rfl) (by as_aux_lemma => kernel_rfl) ?hQ22z20 (Or.inl ⟨?hw22z20, ?hy22z20⟩) (by assumption) ?r22z20
                      case hi22z20 => (simp only [List.getElem?_toArray, List.getElem?_cons_succ, List.getElem?_cons_zero]; rfl)
                      case hQ22z20 => exact fun _ _ _ h => h
                      case hw22z20 => rfl
                      case hy22z20 => (intro w hSw; (try dsimp only at hSw); go_simp; (try with_reducible rfl))
                      (try simp only [Act.put, List.setIfInBounds_toArray, List.set_cons_zero, List.set_cons_succ])
                      refine wpAnyH_take (i := 23) (oi := ?oi23z20) (v := ?v23z20) ?hi23z20 (by as_aux_lemma => kernel_rfl) (by as_aux_lemma => kernel_rfl) (by as_aux_lemma => kernel_rfl) ?hQ23z20 (Or.inl ⟨?hw23z20, ?hy23z20⟩) (by assumption) ?r23z20
                      case hi23z20 => (simp only [List.getElem?_toArray, List.getElem?_cons_succ, List.getElem?_cons_zero]; rfl)
                      case hQ23z20 => exact fun _ _ _ h => h
                      case hw23z20 => rfl
                      case hy23z20 => (intro w hSw; (try dsimp only at hSw); go_simp; (try with_reducible rfl))
                      (try simp only [Act.put, List.setIfInBounds_toArray, List.set_cons_zero, List.set_cons_succ])
                      as_aux_lemma =>
                      refine wpAnyH_take (i := 24) (oi := ?oi24z20) (v := ?v24z20) ?hi24z20 (by as_aux_lemma => kernel_rfl) (by as_aux_lemma => kernel_rfl) (by as_aux_lemma => kernel_rfl) ?hQ24z20 (Or.inl ⟨?hw24z20, ?hy24z20⟩) (by assumption) ?r24z20
                      case hi24z20 => (simp only [List.getElem?_toArray, List.getElem?_cons_succ, List.getElem?_cons_zero]; rfl)
                      case hQ24z20 => exact fun _ _ _ h => h
                      case hw24z20 => rfl
                      case hy24z20 => (intro w hSw; (try dsimp only at hSw); go_simp; (try with_reducible rfl))
                      (try simp only [Act.put, List.setIfInBounds_toArray, List.set_cons_zero, List.set_cons_succ])
                      refine wpAnyH_take (i := 25) (oi := ?oi25z20) (v := ?v25z20) ?hi25z20 (by as_aux_lemma => kernel_rfl) (by as_aux_lemma => kernel_rfl) (by as_aux_lemma => kernel_rfl) ?hQ25z20 (Or.inl ⟨?hw25z20, ?hy25z20⟩) (by assumption) ?r25z20
                      case hi25z20 => (simp only [List.getElem?_toArray, List.getElem?_cons_succ, List.getElem?_cons_zero]; rfl)
                      case hQ25z20 => exact fun _ _ _ h => h
                      case hw25z20 => rfl
                      case hy25z20 => (intro w hSw; (try dsimp only at hSw); go_simp; (try with_reducible rfl))
                      (try simp only [Act.put, List.setIfInBounds_toArray, List.set_cons_zero, List.set_cons_succ])
                      refine wpAnyH_take (i := 26) (oi := ?oi26z20) (v := ?v26z20) ?hi26z20 (by as_aux_lemma => kernel_rfl) (by as_aux_lemma => kernel_rfl) (by as_aux_lemma => kernel_rfl) ?hQ26z20 (Or.inl ⟨?hw26z20, ?hy26z20⟩) (by assumption) ?r26z20
                      case hi26z20 => (simp only [List.getElem?_toArray, List.getElem?_cons_succ, List.getElem?_cons_zero]; rfl)
                      case hQ26z20 => exact fun _ _ _ h => h
                      case hw26z20 => rfl
                      case hy26z20 => (intro w hSw; (try dsimp only at hSw); go_simp; (try with_reducible rfl))
                      (try simp only [Act.put, List.setIfInBounds_toArray, List.set_cons_zero, List.set_cons_succ])
                      refine wpAnyH_take (i := 27) (oi := ?oi27z20) (v := ?v27z20) ?hi27z20 (by as_aux_lemma => kernel_rfl) (by as_aux_lemma => kernel_rfl) (by as_aux_lemma => kernel_rfl) ?hQ27z20 (Or.inl ⟨?hw27z20, ?hy27z20⟩) (by assumption) ?r27z20
                      case hi27z20 => (simp only [List.getElem?_toArray, List.getElem?_cons_succ, List.getElem?_cons_zero]; rfl)
                      case hQ27z20 => exact fun _ _ _ h => h
                      case hw27z20 => rfl
                      case hy27z20 => (intro w hSw; (try dsimp only at hSw); go_simp; (try with_reducible rfl))
                      (try simp only [Act.put, List.setIfInBounds_toArray, List.set_cons_zero, List.set_cons_succ])
                      refine wpAnyH_take (i := 28) (oi := ?oi28z20) (v := ?v28z20) ?hi28z20 (by as_aux_lemma => kernel_rfl) (by as_aux_lemma => kernel_rfl) (by as_aux_lemma => kernel_rfl) ?hQ28z20 (Or.inl ⟨?hw28z20, ?hy28z20⟩) (by assumption) ?r28z20
                      case hi28z20 => (simp only [List.getElem?_toArray, List.getElem?_cons_succ, List.getElem?_cons_zero]; rfl)
                      case hQ28z20 => exact fun _ _ _ h => h
                      case hw28z20 => rfl
                      case hy28z20 => (intro w hSw; (try dsimp only at hSw); go_simp; (try with_reducible rfl))
                      (try simp only [Act.put, List.setIfInBounds_toArray, List.set_cons_zero, List.set_cons_succ])
                      refine wpAnyH_take (i := 29) (oi := ?oi29z20) (v := ?v29z20) ?hi29z20 (by as_aux_lemma => kernel_rfl) (by as_aux_lemma => kernel_rfl) (by as_aux_lemma => kernel_rfl) ?hQ29z20 (Or.inl ⟨?hw29z20, ?hy29z20⟩) (by assumption) ?r29z20
                      case hi29z20 => (simp only [List.getElem?_toArray, List.getElem?_cons_succ, List.getElem?_cons_zero]; rfl)
                      case hQ29z20 => exact fun _ _ _ h => h
                      case hw29z20 => rfl
                      case hy29z20 => (intro w hSw; (try dsimp only at hSw); go_simp; (try with_reducible rfl))
                      (try simp only [Act.put, List.setIfInBounds_toArray, List.set_cons_zero, List.set_cons_succ])
                      refine wpAnyH_take (i := 30) (oi := ?oi30z20) (v := undef) ?hi30z20 (by as_aux_lemma => kernel_rfl) (by as_aux_lemma => kernel_rfl) (by as_aux_lemma => kernel_rfl) ?hQ30z20 (Or.inr ⟨?hw30z20, rfl⟩) (by assumption) ?r30z20
                      case hi30z20 => (simp only [List.getElem?_toArray, List.getElem?_cons_succ, List.getElem?_cons_zero]; rfl)
                      case hQ30z20 => exact fun _ _ _ h => h
                      case hw30z20 => rfl
                      (try simp only [Act.put, List.setIfInBounds_toArray, List.set_cons_zero, List.set_cons_succ])
                      refine wpAnyH_take (i := 31) (oi := ?oi31z20) (v := undef) ?hi31z20 (by as_aux_lemma => kernel_rfl) (by as_aux_lemma => kernel_rfl) (by as_aux_lemma => kernel_rfl) ?hQ31z20 (Or.inr ⟨?hw31z20, rfl⟩) (by assumption) ?r31z20
                      case hi31z20 => (simp only [List.getElem?_toArray, List.getElem?_cons_succ, List.getElem?_cons_zero]; rfl)
                      case hQ31z20 => exact fun _ _ _ h => h
                      case hw31z20 => rfl
                      (try simp only [Act.put, List.setIfInBounds_toArray, List.set_cons_zero, List.set_cons_succ])
                      as_aux_lemma =>
                      refine wpAnyH_take (i := 32) (oi := ?oi32z20) (v := undef) ?hi32z20 (by as_aux_lemma => kernel_rfl) (by as_aux_lemma => kernel_rfl) (by as_aux_lemma => kernel_rfl) ?hQ32z20 (Or.inr ⟨?hw32z20, rfl⟩) (by assumption) ?r32z20
                      case hi32z20 => (simp only [List.getElem?_toArray, List.getElem?_cons_succ, List.getElem?_cons_zero]; rfl)
                      case hQ32z20 => exact fun _ _ _ h => h
                      case hw32z20 => rfl
                      (try simp only [Act.put, List.setIfInBounds_toArray, List.set_cons_zero, List.set_cons_succ])
                      refine wpAnyH_take (i := 33) (oi := ?oi33z20) (v := ?v33z20) ?hi33z20 (by as_aux_lemma => kernel_rfl) (by as_aux_lemma => kernel_rfl) (by as_aux_lemma => kernel_rfl) ?hQ33z20 (Or.inl ⟨?hw33z20, ?hy33z20⟩) (by assumption) ?r33z20
                      case hi33z20 => (simp only [List.getElem?_toArray, List.getElem?_cons_succ, List.getElem?_cons_zero]; rfl)
                      case hQ33z20 => exact fun _ _ _ h => h
                      case hw33z20 => rfl
                      case hy33z20 => (intro w hSw; (try dsimp only at hSw); go_simp; (try with_reducible rfl))
                      (try simp only [Act.put, List.setIfInBounds_toArray, List.set_cons_zero, List.set_cons_succ])
                      refine wpAnyH_take (i := 34) (oi := ?oi34z20) (v := ?v34z20) ?hi34z20 (by as_aux_lemma => kernel_rfl) (by as_aux_lemma => kernel_rfl) (by as_aux_lemma => kernel_rfl) ?hQ34z20 (Or.inl ⟨?hw34z20, ?hy34z20⟩) (by assumption) ?r34z20
                      case hi34z20 => (simp only [List.getElem?_toArray, List.getElem?_cons_succ, List.getElem?_cons_zero]; rfl)
                      case hQ34z20 => exact fun _ _ _ h => h
                      case hw34z20 => rfl
                      case hy34z20 => (intro w hSw; (try dsimp only at hSw); go_simp; (try with_reducible rfl))
                      (try simp only [Act.put, List.setIfInBounds_toArray, List.set_cons_zero, List.set_cons_succ])
                      refine wpAnyH_take (i := 35) (oi := ?oi35z20) (v := ?v35z20) ?hi35z20 (by as_aux_lemma => kernel_rfl) (by as_aux_lemma => kernel_rfl) (by as_aux_lemma => kernel_rfl) ?hQ35z20 (Or.inl ⟨?hw35z20, ?hy35z20⟩) (by assumption) ?r35z20
                      case hi35z20 => (simp only [List.getElem?_toArray, List.getElem?_cons_succ, List.getElem?_cons_zero]; rfl)
                      case hQ35z20 => exact fun _ _ _ h => h
                      case hw35z20 => rfl
                      case hy35z20 => (intro w hSw; (try dsimp only at hSw); go_simp; (try with_reducible rfl))
                      (try simp only [Act.put, List.setIfInBounds_toArray, List.set_cons_zero, List.set_cons_succ])
                      refine wpAnyH_take (i := 36) (oi := ?oi36z20) (v := ?v36z20) ?hi36z20 (by as_aux_lemma => kernel_rfl) (by as_aux_lemma => kernel_rfl) (by as_aux_lemma => kernel_rfl) ?hQ36z20 (Or.inl ⟨?hw36z20, ?hy36z20⟩) (by assumption) ?r36z20
                      case hi36z20 => (simp only [List.getElem?_toArray, List.getElem?_cons_succ, List.getElem?_cons_zero]; rfl)
                      case hQ36z20 => exact fun _ _ _ h => h
                      case hw36z20 => rfl
                      case hy36z20 => (intro w hSw; (try dsimp only at hSw); go_simp; (try with_reducible rfl))
                      (try simp only [Act.put, List.setIfInBounds_toArray, List.set_cons_zero, List.set_cons_succ])
                      refine wpAnyH_take (i := 37) (oi := ?oi37z20) (v := ?v37z20) ?hi37z20 (by as_aux_lemma => kernel_rfl) (by as_aux_lemma => kernel_rfl) (by as_aux_lemma => kernel_rfl) ?hQ37z20 (Or.inl ⟨?hw37z20, ?hy37z20⟩) (by assumption) ?r37z20
                      case hi37z20 => (simp only [List.getElem?_toArray, List.getElem?_cons_succ, List.getElem?_cons_zero]; rfl)
                      case hQ37z20 => exact fun _ _ _ h => h
                      case hw37z20 => rfl
                      case hy37z20 => (intro w hSw; (try dsimp only at hSw); go_simp; (try with_reducible rfl))
                      (try simp only [Act.put, List.setIfInBounds_toArray, List.set_cons_zero, List.set_cons_succ])
                      refine wpAnyH_take (i := 38) (oi := ?oi38z20) (v := ?v38z20) ?hi38z20 (by as_aux_lemma => kernel_rfl) (by as_aux_lemma => kernel_rfl) (by as_aux_lemma => kernel_rfl) ?hQ38z20 (Or.inl ⟨?hw38z20, ?hy38z20⟩) (by assumption) ?r38z20
                      case hi38z20 => (simp only [List.getElem?_toArray, List.getElem?_cons_succ, List.getElem?_cons_zero]; rfl)
                      case hQ38z20 => exact fun _ _ _ h => h
                      case hw38z20 => rfl
                      case hy38z20 => (intro w hSw; (try dsimp only at hSw); go_simp; (try with_reducible rfl))
                      (try simp only [Act.put, List.setIfInBounds_toArray, List.set_cons_zero, List.set_cons_succ])
                      refine wpAnyH_take (i := 39) (oi := ?oi39z20) (v := ?v39z20) ?hi39z20 (by as_aux_lemma => kernel_rfl) (by as_aux_lemma => kernel_rfl) (by as_aux_lemma => kernel_rfl) ?hQ39z20 (Or.inl ⟨?hw39z20, ?hy39z20⟩) (by assumption) ?r39z20
                      case hi39z20 => (simp only [List.getElem?_toArray, List.getElem?_cons_succ, List.getElem?_cons_zero]; rfl)
                      case hQ39z20 => exact fun _ _ _ h => h
                      case hw39z20 => rfl
                      case hy39z20 => (intro w hSw; (try dsimp only at hSw); go_simp; (try with_reducible rfl))
                      (try simp only [Act.put, List.setIfInBounds_toArray, List.set_cons_zero, List.set_cons_succ])
                      as_aux_lemma =>
                      refine wpAnyH_take (i := 40) (oi := ?oi40z20) (v := ?v40z20) ?hi40z20 (by as_aux_lemma => kernel_rfl) (by as_aux_lemma => kernel_rfl) (by as_aux_lemma => kernel_rfl) ?hQ40z20 (Or.inl ⟨?hw40z20, ?hy40z20⟩) (by assumption) ?r40z20
                      case hi40z20 => (simp only [List.getElem?_toArray, List.getElem?_cons_succ, List.getElem?_cons_zero]; rfl)
                      case hQ40z20 => exact fun _ _ _ h => h
                      case hw40z20 => rfl
                      case hy40z20 => (intro w hSw; (try dsimp only at hSw); go_simp; (try with_reducible rfl))
                      (try simp only [Act.put, List.setIfInBounds_toArray, List.set_cons_zero, List.set_cons_succ])
                      refine wpAnyH_take (i := 41) (oi := ?oi41z20) (v := ?v41z20) ?hi41z20 (by as_aux_lemma => kernel_rfl) (by as_aux_lemma => kernel_rfl) (by as_aux_lemma => kernel_rfl) ?hQ41z20 (Or.inl ⟨?hw41z20, ?hy41z20⟩) (by assumption) ?r41z20
                      case hi41z20 => (simp only [List.getElem?_toArray, List.getElem?_cons_succ, List.getElem?_cons_zero]; rfl)
                      case hQ41z20 => exact fun _ _ _ h => h
                      case hw41z20 => rfl
                      case hy41z20 => (intro w hSw; (try dsimp only at hSw); go_simp; (try with_reducible rfl))
                      (try simp only [Act.put, List.setIfInBounds_toArray, List.set_cons_zero, List.set_cons_succ])
                      refine wpAnyH_take (i := 42) (oi := ?oi42z20) (v := ?v42z20) ?hi42z20 (by as_aux_lemma => kernel_rfl) (by as_aux_lemma => kernel_rfl) (by as_aux_lemma => kernel_rfl) ?hQ42z20 (Or.inl ⟨?hw42z20, ?hy42z20⟩) (by assumption) ?r42z20
                      case hi42z20 => (simp only [List.getElem?_toArray, List.getElem?_cons_succ, List.getElem?_cons_zero]; rfl)
                      case hQ42z20 => exact fun _ _ _ h => h
                      case hw42z20 => rfl
                      case hy42z20 => (intro w hSw; (try dsimp only at hSw); go_simp; (try with_reducible rfl))
                      (try simp only [Act.put, List.setIfInBounds_toArray, List.set_cons_zero, List.set_cons_succ])
                      refine wpAnyH_take (i := 43) (oi := ?oi43z20) (v := ?v43z20) ?hi43z20 (by as_aux_lemma => kernel_rfl) (by as_aux_lemma => kernel_rfl) (by as_aux_lemma => kernel_rfl) ?hQ43z20 (Or.inl ⟨?hw43z20, ?hy43z20⟩) (by assumption) ?r43z20
                      case hi43z20 => (simp only [List.getElem?_toArray, List.getElem?_cons_succ, List.getElem?_cons_zero]; rfl)
                      case hQ43z20 => exact fun _ _ _ h => h
                      case hw43z20 => rfl
                      case hy43z20 => (intro w hSw; (try dsimp only at hSw); go_simp; (try with_reducible rfl))
                      (try simp only [Act.put, List.setIfInBounds_toArray, List.set_cons_zero, List.set_cons_succ])
                      refine wpAnyH_take (i := 44) (oi := ?oi44z20) (v := ?v44z20) ?hi44z20 (by as_aux_lemma => kernel_rfl) (by as_aux_lemma => kernel_rfl) (by as_aux_lemma => kernel_rfl) ?hQ44z20 (Or.inl ⟨?hw44z20, ?hy44z20⟩) (by assumption) ?r44z20
                      case hi44z20 => (simp only [List.getElem?_toArray, List.getElem?_cons_succ, List.getElem?_cons_zero]; rfl)
                      case hQ44z20 => exact fun _ _ _ h => h
                      case hw44z20 => rfl
                      case hy44z20 => (intro w hSw; (try dsimp only at hSw); go_simp; (try with_reducible rfl))
                      (try simp only [Act.put, List.setIfInBounds_toArray, List.set_cons_zero, List.set_cons_succ])
                      refine wpAnyH_take (i := 45) (oi := ?oi45z20) (v := ?v45z20) ?hi45z20 (by as_aux_lemma => kernel_rfl) (by as_aux_lemma => kernel_rfl) (by as_aux_lemma => kernel_rfl) ?hQ45z20 (Or.inl ⟨?hw45z20, ?hy45z20⟩) (by assumption) ?r45z20
                      case hi45z20 => (simp only [List.getElem?_toArray, List.getElem?_cons_succ, List.getElem?_cons_zero]; rfl)
                      case hQ45z20 => exact fun _ _ _ h => h
                      case hw45z20 => rfl
                      case hy45z20 => (intro w hSw; (try dsimp only at hSw); go_simp; (try with_reducible rfl))
                      (try simp only [Act.put, List.setIfInBounds_toArray, List.set_cons_zero, List.set_cons_succ])
                      refine wpAnyH_take (i := 46) (oi := ?oi46z20) (v := ?v46z20) ?hi46z20 (by as_aux_lemma => kernel_rfl) (by as_aux_lemma => kernel_rfl) (by as_aux_lemma => kernel_rfl) ?hQ46z20 (Or.inl ⟨?hw46z20, ?hy46z20⟩) (by assumption) ?r46z20
                      case hi46z20 => (simp only [List.getElem?_toArray, List.getElem?_cons_succ, List.getElem?_cons_zero]; rfl)
                      case hQ46z20 => exact fun _ _ _ h => h
                      case hw46z20 => rfl
                      case hy46z20 => (intro w hSw; (try dsimp only at hSw); go_simp; (try with_reducible rfl))
                      (try simp only [Act.put, List.setIfInBounds_toArray, List.set_cons_zero, List.set_cons_succ])
                      refine wpAnyH_take (i := 47) (oi := ?oi47z20) (v := ?v47z20) ?hi47z20 (by as_aux_lemma => kernel_rfl) (by as_aux_lemma => kernel_rfl) (by as_aux_lemma => kernel_rfl) ?hQ47z20 (Or.inl ⟨?hw47z20, ?hy47z20⟩) (by assumption) ?r47z20
                      case hi47z20 => (simp only [List.getElem?_toArray, List.getElem?_cons_succ, List.getElem?_cons_zero]; rfl)
                      case hQ47z20 => exact fun _ _ _ h => h
                      case hw47z20 => rfl
                      case hy47z20 => (intro w hSw; (try dsimp only at hSw); go_simp; (try with_reducible rfl))
                      (try simp only [Act.put, List.setIfInBounds_toArray, List.set_cons_zero, List.set_cons_succ])
                      as_aux_lemma =>
                      refine wpAnyH_ready (rs := [48]) (by as_aux_lemma => kernel_rfl) (by simp) ?_
                      refine AllReadyH.cons (o := ?oi48z20) ?hi48z20 ?hc48z20 AllReadyH.nil
                      case hi48z20 => (simp only [List.getElem?_toArray, List.getElem?_cons_succ, List.getElem?_cons_zero]; rfl)
                      intro K hK
                      go_simp
                      go_at_call 64
                      refine (span2_any A n c B m d x _).mono ?_
                      rintro e w4 ⟨rfl, hqn⟩
                      refine hK.out _ _ ?hS48z20 (fun hHeld => ?r48z20)
                      case hS48z20 => exact ⟨below_all hHeld.1 hqn, block_keep hqn (lt_of_heap hHeld.2.1) hHeld.2.1, block_keep hqn (lt_of_heap hHeld.2.2.1) hHeld.2.2.1, block_keep hqn (lt_of_heap hHeld.2.2.2.1) hHeld.2.2.2.1, block_keep hqn (lt_of_heap hHeld.2.2.2.2) hHeld.2.2.2.2⟩
                      clear hK K
                      (try simp only [Act.put, List.setIfInBounds_toArray, List.set_cons_zero, List.set_cons_succ])
                      as_aux_lemma =>
                      refine wpAnyH_take (i := 49) (oi := ?oi49z20) (v := ?v49z20) ?hi49z20 (by as_aux_lemma => kernel_rfl) (by as_aux_lemma => kernel_rfl) (by as_aux_lemma => kernel_rfl) ?hQ49z20 (Or.inl ⟨?hw49z20, ?hy49z20⟩) (by assumption) ?r49z20
                      case hi49z20 => (simp only [List.getElem?_toArray, List.getElem?_cons_succ, List.getElem?_cons_zero]; rfl)
                      case hQ49z20 => exact fun _ _ _ h => h
                      case hw49z20 => rfl
                      case hy49z20 => (intro w hSw; (try dsimp only at hSw); go_simp; (try with_reducible rfl))
                      (try simp only [Act.put, List.setIfInBounds_toArray, List.set_cons_zero, List.set_cons_succ])
                      refine wpAnyH_take (i := 50) (oi := ?oi50z20) (v := ?v50z20) ?hi50z20 (by as_aux_lemma => kernel_rfl) (by as_aux_lemma => kernel_rfl) (by as_aux_lemma => kernel_rfl) ?hQ50z20 (Or.inl ⟨?hw50z20, ?hy50z20⟩) (by assumption) ?r50z20
                      case hi50z20 => (simp only [List.getElem?_toArray, List.getElem?_cons_succ, List.getElem?_cons_zero]; rfl)
                      case hQ50z20 => exact fun _ _ _ h => h
                      case hw50z20 => rfl
                      case hy50z20 => (intro w hSw; (try dsimp only at hSw); go_simp; (try with_reducible rfl))
                      (try simp only [Act.put, List.setIfInBounds_toArray, List.set_cons_zero, List.set_cons_succ])
                      refine wpAnyH_take (i := 51) (oi := ?oi51z20) (v := ?v51z20) ?hi51z20 (by as_aux_lemma => kernel_rfl) (by as_aux_lemma => kernel_rfl) (by as_aux_lemma => kernel_rfl) ?hQ51z20 (Or.inl ⟨?hw51z20, ?hy51z20⟩) (by assumption) ?r51z20
                      case hi51z20 => (simp only [List.getElem?_toArray, List.getElem?_cons_succ, List.getElem?_cons_zero]; rfl)
                      case hQ51z20 => exact fun _ _ _ h => h
                      case hw51z20 => rfl
                      case hy51z20 => (intro w hSw; (try dsimp only at hSw); go_simp; (try with_reducible rfl))
                      (try simp only [Act.put, List.setIfInBounds_toArray, List.set_cons_zero, List.set_cons_succ])
                      refine wpAnyH_take (i := 52) (oi := ?oi52z20) (v := ?v52z20) ?hi52z20 (by as_aux_lemma => kernel_rfl) (by as_aux_lemma => kernel_rfl) (by as_aux_lemma => kernel_rfl) ?hQ52z20 (Or.inl ⟨?hw52z20, ?hy52z20⟩) (by assumption) ?r52z20
                      case hi52z20 => (simp only [List.getElem?_toArray, List.getElem?_cons_succ, List.getElem?_cons_zero]; rfl)
                      case hQ52z20 => exact fun _ _ _ h => h
                      case hw52z20 => rfl
                      case hy52z20 => (intro w hSw; (try dsimp only at hSw); go_simp; (try with_reducible rfl))
                      (try simp only [Act.put, List.setIfInBounds_toArray, List.set_cons_zero, List.set_cons_succ])
                      refine wpAnyH_take (i := 53) (oi := ?oi53z20) (v := ?v53z20) ?hi53z20 (by as_aux_lemma => kernel_rfl) (by as_aux_lemma => kernel_rfl) (by as_aux_lemma => kernel_rfl) ?hQ53z20 (Or.inl ⟨?hw53z20, ?hy53z20⟩) (by assumption) ?r53z20
                      case hi53z20 => (simp only [List.getElem?_toArray, List.getElem?_cons_succ, List.getElem?_cons_zero]; rfl)
                      case hQ53z20 => exact fun _ _ _ h => h
                      case hw53z20 => rfl
                      case hy53z20 => (intro w hSw; (try dsimp only at hSw); go_simp; (try with_reducible rfl))
                      (try simp only [Act.put, List.setIfInBounds_toArray, List.set_cons_zero, List.set_cons_succ])
                      refine wpAnyH_take (i := 54) (oi := ?oi54z20) (v := ?v54z20) ?hi54z20 (by as_aux_lemma => kernel_rfl) (by as_aux_lemma => kernel_rfl) (by as_aux_lemma => kernel_rfl) ?hQ54z20 (Or.inl ⟨?hw54z20, ?hy54z20⟩) (by assumption) ?r54z20
                      case hi54z20 => (simp only [List.getElem?_toArray, List.getElem?_cons_succ, List.getElem?_cons_zero]; rfl)
                      case hQ54z20 => exact fun _ _ _ h => h
                      case hw54z20 => rfl
                      case hy54z20 => (intro w hSw; (try dsimp only at hSw); go_simp; (try with_reducible rfl))
                      (try simp only [Act.put, List.setIfInBounds_toArray, List.set_cons_zero, List.set_cons_succ])
                      refine wpAnyH_take (i := 55) (oi := ?oi55z20) (v := ?v55z20) ?hi55z20 (by as_aux_lemma => kernel_rfl) (by as_aux_lemma => kernel_rfl) (by as_aux_lemma => kernel_rfl) ?hQ55z20 (Or.inl ⟨?hw55z20, ?hy55z20⟩) (by assumption) ?r55z20
                      case hi55z20 => (simp only [List.getElem?_toArray, List.getElem?_cons_succ, List.getElem?_cons_zero]; rfl)
                      case hQ55z20 => exact fun _ _ _ h => h
                      case hw55z20 => rfl
                      case hy55z20 => (intro w hSw; (try dsimp only at hSw); go_simp; (try with_reducible rfl))
                      (try simp only [Act.put, List.setIfInBounds_toArray, List.set_cons_zero, List.set_cons_succ])
                      as_aux_lemma =>
                      refine wpAnyH_take (i := 56) (oi := ?oi56z20) (v := ?v56z20) ?hi56z20 (by as_aux_lemma => kernel_rfl) (by as_aux_lemma => kernel_rfl) (by as_aux_lemma => kernel_rfl) ?hQ56z20 (Or.inl ⟨?hw56z20, ?hy56z20⟩) (by assumption) ?r56z20
                      case hi56z20 => (simp only [List.getElem?_toArray, List.getElem?_cons_succ, List.getElem?_cons_zero]; rfl)
                      case hQ56z20 => exact fun _ _ _ h => h
                      case hw56z20 => rfl
                      case hy56z20 => (intro w hSw; (try dsimp only at hSw); go_simp; (try with_reducible rfl))
                      (try simp only [Act.put, List.setIfInBounds_toArray, List.set_cons_zero, List.set_cons_succ])
                      refine wpAnyH_take (i := 57) (oi := ?oi57z20) (v := ?v57z20) ?hi57z20 (by as_aux_lemma => kernel_rfl) (by as_aux_lemma => kernel_rfl) (by as_aux_lemma => kernel_rfl) ?hQ57z20 (Or.inl ⟨?hw57z20, ?hy57z20⟩) (by assumption) ?r57z20
                      case hi57z20 => (simp only [List.getElem?_toArray, List.getElem?_cons_succ, List.getElem?_cons_zero]; rfl)
                      case hQ57z20 => exact fun _ _ _ h => h
                      case hw57z20 => rfl
                      case hy57z20 => (intro w hSw; (try dsimp only at hSw); go_simp; (try with_reducible rfl))
                      (try simp only [Act.put, List.setIfInBounds_toArray, List.set_cons_zero, List.set_cons_succ])
                      refine wpAnyH_take (i := 58) (oi := ?oi58z20) (v := ?v58z20) ?hi58z20 (by as_aux_lemma => kernel_rfl) (by as_aux_lemma => kernel_rfl) (by as_aux_lemma => kernel_rfl) ?hQ58z20 (Or.inl ⟨?hw58z20, ?hy58z20⟩) (by assumption) ?r58z20
                      case hi58z20 => (simp only [List.getElem?_toArray, List.getElem?_cons_succ, List.getElem?_cons_zero]; rfl)
                      case hQ58z20 => exact fun _ _ _ h => h
                      case hw58z20 => rfl
                      case hy58z20 => (intro w hSw; (try dsimp only at hSw); go_simp; (try with_reducible rfl))
                      (try simp only [Act.put, List.setIfInBounds_toArray, List.set_cons_zero, List.set_cons_succ])
                      refine wpAnyH_take (i := 59) (oi := ?oi59z20) (v := undef) ?hi59z20 (by as_aux_lemma => kernel_rfl) (by as_aux_lemma => kernel_rfl) (by as_aux_lemma => kernel_rfl) ?hQ59z20 (Or.inr ⟨?hw59z20, rfl⟩) (by assumption) ?r59z20
                      case hi59z20 => (simp only [List.getElem?_toArray, List.getElem?_cons_succ, List.getElem?_cons_zero]; rfl)
                      case hQ59z20 => exact fun _ _ _ h => h
                      case hw59z20 => rfl
                      (try simp only [Act.put, List.setIfInBounds_toArray, List.set_cons_zero, List.set_cons_succ])
                      refine wpAnyH_take (i := 60) (oi := ?oi60z20) (v := undef) ?hi60z20 (by as_aux_lemma => kernel_rfl) (by as_aux_lemma => kernel_rfl) (by as_aux_lemma => kernel_rfl) ?hQ60z20 (Or.inr ⟨?hw60z20, rfl⟩) (by assumption) ?r60z20
                      case hi60z20 => (simp only [List.getElem?_toArray, List.getElem?_cons_succ, List.getElem?_cons_zero]; rfl)
                      case hQ60z20 => exact fun _ _ _ h => h
                      case hw60z20 => rfl
                      (try simp only [Act.put, List.setIfInBounds_toArray, List.set_cons_zero, List.set_cons_succ])
                      refine wpAnyH_take (i := 61) (oi := ?oi61z20) (v := undef) ?hi61z20 (by as_aux_lemma => kernel_rfl) (by as_aux_lemma => kernel_rfl) (by as_aux_lemma => kernel_rfl) ?hQ61z20 (Or.inr ⟨?hw61z20, rfl⟩) (by assumption) ?r61z20
                      case hi61z20 => (simp only [List.getElem?_toArray, List.getElem?_cons_succ, List.getElem?_cons_zero]; rfl)
                      case hQ61z20 => exact fun _ _ _ h => h
                      case hw61z20 => rfl
                      (try simp only [Act.put, List.setIfInBounds_toArray, List.set_cons_zero, List.set_cons_succ])
                      refine wpAnyH_take (i := 62) (oi := ?oi62z20) (v := ?v62z20) ?hi62z20 (by as_aux_lemma => kernel_rfl) (by as_aux_lemma => kernel_rfl) (by as_aux_lemma => kernel_rfl) ?hQ62z20 (Or.inl ⟨?hw62z20, ?hy62z20⟩) (by assumption) ?r62z20
                      case hi62z20 => (simp only [List.getElem?_toArray, List.getElem?_cons_succ, List.getElem?_cons_zero]; rfl)
                      case hQ62z20 => exact fun _ _ _ h => h
                      case hw62z20 => rfl
                      case hy62z20 => (intro w hSw; (try dsimp only at hSw); go_simp; (try with_reducible rfl))
                      (try simp only [Act.put, List.setIfInBounds_toArray, List.set_cons_zero, List.set_cons_succ])
                      refine wpAnyH_take (i := 63) (oi := ?oi63z20) (v := ?v63z20) ?hi63z20 (by as_aux_lemma => kernel_rfl) (by as_aux_lemma => kernel_rfl) (by as_aux_lemma => kernel_rfl) ?hQ63z20 (Or.inl ⟨?hw63z20, ?hy63z20⟩) (by assumption) ?r63z20
                      case hi63z20 => (simp only [List.getElem?_toArray, List.getElem?_cons_succ, List.getElem?_cons_zero]; rfl)
                      case hQ63z20 => exact fun _ _ _ h => h
                      case hw63z20 => rfl
                      case hy63z20 => (intro w hSw; (try dsimp only at hSw); go_simp; (try with_reducible rfl))
                      (try simp only [Act.put, List.setIfInBounds_toArray, List.set_cons_zero, List.set_cons_succ])
                      as_aux_lemma =>
                      refine wpAnyH_take (i := 64) (oi := ?oi64z20) (v := ?v64z20) ?hi64z20 (by as_aux_lemma => kernel_rfl) (by as_aux_lemma => kernel_rfl) (by as_aux_lemma => kernel_rfl) ?hQ64z20 (Or.inl ⟨?hw64z20, ?hy64z20⟩) (by assumption) ?r64z20
                      case hi64z20 => (simp only [List.getElem?_toArray, List.getElem?_cons_succ, List.getElem?_cons_zero]; rfl)
                      case hQ64z20 => exact fun _ _ _ h => h
                      case hw64z20 => rfl
                      case hy64z20 => (intro w hSw; (try dsimp only at hSw); go_simp; (try with_reducible rfl))
                      (try simp only [Act.put, List.setIfInBounds_toArray, List.set_cons_zero, List.set_cons_succ])
                      refine wpAnyH_done (by as_aux_lemma => kernel_rfl) ?_ _
                      obtain ⟨Q0, Q1, Q2, Q3, Q5⟩ := hHeld
                      clear ra0 ra1 ra2 ra3 ra4 ra5 ra6 ra7 rn0 rn1 rn2 rn3 rm0 rm1 rm2 rm3 rs0 rs1 rs2 rs3 hw hh tb1 tb2 xlo xhi
                      have cn0 := cell_heap (j := 0) Q2 rfl
                      have cn1 := cell_heap (j := 1) Q2 rfl
                      have cn2 := cell_heap (j := 2) Q2 rfl
                      have cn3 := cell_heap (j := 3) Q2 rfl
                      have cm0 := cell_heap (j := 0) Q5 rfl
                      have cm1 := cell_heap (j := 1) Q5 rfl
                      have cm2 := cell_heap (j := 2) Q5 rfl
                      have cm3 := cell_heap (j := 3) Q5 rfl
                      have fn0 := frozen_pa Q2 0
                      have fn1 := frozen_pa Q2 1
                      have fn2 := frozen_pa Q2 2
                      have fn3 := frozen_pa Q2 3
                      have cs := cell_heap (j := 2) Q3 rfl
                      have fs := frozen_pa Q3 2
                      have R0 := Lib.hid Q0
                      have R1 := Lib.hid Q1
                      have R2 := Lib.hid Q2
                      have R3 := Lib.hid Q3
                      have R5 := Lib.hid Q5
                      clear Q0 Q1 Q2 Q3 Q5
                      have e1 : ¬ M = N := by have := HM.out; omega
                      have e2 : ¬ N = M := by have := HM.out; omega
                      have e3 : ¬ M = N + 1 := by have := HM.out; omega
                      have e4 : ¬ N + 1 = M := by have := HM.out; omega
                      have hn0 : w.heap.size ≤ N := by have := HN.out; omega
                      have hn1 : w.heap.size ≤ N + 1 := by have := HN.out; omega
                      have hn2 : w.heap.size ≠ N := by have := HN.out; omega
                      have hn3 : w.heap.size ≠ N + 1 := by have := HN.out; omega
                      go_wp2_with fail
                      go_roundg (60 - (k + 1))
                      case measure => have := HK.out.1; omega
                      case rel =>
                        refine ⟨k + 1, tick + dt, true, true, false, s1, true, false, ((tick + dt + x 5)), by omega, by go_num, rfl, Lib.hid ⟨by omega, HT2'.out.1, HT2'.out.2⟩, Lib.hid ⟨fun _ => rfl, fun _ => rfl, fun h => by cases h⟩, ?_, ?_, ?_, ?_⟩
                        · exact Lib.hid (put4_below (below_set R0.out (N + 1) 2 hn1 _) hn0 _ _ _ _)
                        · exact Lib.hid (put4_other (heap_setOther R1.out hn3 2 _) hn2 _ _ _ _)
                        · exact Lib.hid (put4_heap (heap_setOther R2.out (by omega) 2 _) _ _ _ _)
                        · exact Lib.hid (put4_other (heap_setSame R3.out 2 _) (by omega) _ _ _ _)
                  · as_aux_lemma =>
                      obtain rfl : s3 = false := by cases hs : s3; rfl; exact absurd (HS.out.2.2 hs) (by simp)
                      have heq85 := eq85 a0 a1
                      have ra0 : ∀ W : World, W.heap[w.heap.size]? = some (.cells #[.slice A n c, .slice B m d, .int .i64 (x 0), .int .i64 (x 1), .int .i64 (x 2), .int .i64 (x 3), .int .i64 (x 4), .int .i64 (x 5)] 35 (0, 0)) → W.cell? ⟨w.heap.size, 0, none⟩ = some (.slice A n c) := fun W h => cell_heap h rfl
                      have ra1 : ∀ W : World, W.heap[w.heap.size]? = some (.cells #[.slice A n c, .slice B m d, .int .i64 (x 0), .int .i64 (x 1), .int .i64 (x 2), .int .i64 (x 3), .int .i64 (x 4), .int .i64 (x 5)] 35 (0, 0)) → W.cell? ⟨w.heap.size, 1, none⟩ = some (.slice B m d) := fun W h => cell_heap h rfl
                      have ra2 : ∀ W : World, W.heap[w.heap.size]? = some (.cells #[.slice A n c, .slice B m d, .int .i64 (x 0), .int .i64 (x 1), .int .i64 (x 2), .int .i64 (x 3), .int .i64 (x 4), .int .i64 (x 5)] 35 (0, 0)) → W.cell? ⟨w.heap.size, 2, none⟩ = some (.int .i64 (x 0)) := fun W h => cell_heap h rfl
                      have ra3 : ∀ W : World, W.heap[w.heap.size]? = some (.cells #[.slice A n c, .slice B m d, .int .i64 (x 0), .int .i64 (x 1), .int .i64 (x 2), .int .i64 (x 3), .int .i64 (x 4), .int .i64 (x 5)] 35 (0, 0)) → W.cell? ⟨w.heap.size, 3, none⟩ = some (.int .i64 (x 1)) := fun W h => cell_heap h rfl
                      have ra4 : ∀ W : World, W.heap[w.heap.size]? = some (.cells #[.slice A n c, .slice B m d, .int .i64 (x 0), .int .i64 (x 1), .int .i64 (x 2), .int .i64 (x 3), .int .i64 (x 4), .int .i64 (x 5)] 35 (0, 0)) → W.cell? ⟨w.heap.size, 4, none⟩ = some (.int .i64 (x 2)) := fun W h => cell_heap h rfl
                      have ra5 : ∀ W : World, W.heap[w.heap.size]? = some (.cells #[.slice A n c, .slice B m d, .int .i64 (x 0), .int .i64 (x 1), .int .i64 (x 2), .int .i64 (x 3), .int .i64 (x 4), .int .i64 (x 5)] 35 (0, 0)) → W.cell? ⟨w.heap.size, 5, none⟩ = some (.int .i64 (x 3)) := fun W h => cell_heap h rfl
                      have ra6 : ∀ W : World, W.heap[w.heap.size]? = some (.cells #[.slice A n c, .slice B m d, .int .i64 (x 0), .int .i64 (x 1), .int .i64 (x 2), .int .i64 (x 3), .int .i64 (x 4), .int .i64 (x 5)] 35 (0, 0)) → W.cell? ⟨w.heap.size, 6, none⟩ = some (.int .i64 (x 4)) := fun W h => cell_heap h rfl
                      have ra7 : ∀ W : World, W.heap[w.heap.size]? = some (.cells #[.slice A n c, .slice B m d, .int .i64 (x 0), .int .i64 (x 1), .int .i64 (x 2), .int .i64 (x 3), .int .i64 (x 4), .int .i64 (x 5)] 35 (0, 0)) → W.cell? ⟨w.heap.size, 7, none⟩ = some (.int .i64 (x 5)) := fun W h => cell_heap h rfl
                      have rn0 : ∀ W : World, W.heap[N]? = some (.cells #[.bool a0, .bool a1, .int .i64 t, .bool false] 87 (0, 0)) → W.cell? ⟨N, 0, none⟩ = some (.bool a0) := fun W h => cell_heap h rfl
                      have rn1 : ∀ W : World, W.heap[N]? = some (.cells #[.bool a0, .bool a1, .int .i64 t, .bool false] 87 (0, 0)) → W.cell? ⟨N, 1, none⟩ = some (.bool a1) := fun W h => cell_heap h rfl
                      have rn2 : ∀ W : World, W.heap[N]? = some (.cells #[.bool a0, .bool a1, .int .i64 t, .bool false] 87 (0, 0)) → W.cell? ⟨N, 2, none⟩ = some (.int .i64 t) := fun W h => cell_heap h rfl
                      have rn3 : ∀ W : World, W.heap[N]? = some (.cells #[.bool a0, .bool a1, .int .i64 t, .bool false] 87 (0, 0)) → W.cell? ⟨N, 3, none⟩ = some (.bool false) := fun W h => cell_heap h rfl
                      have rm0 : ∀ W : World, W.heap[M]? = some (.cells #[.bool a0, .bool a1, .int .i64 0, .bool true] 87 (0, 0)) → W.cell? ⟨M, 0, none⟩ = some (.bool a0) := fun W h => cell_heap h rfl
                      have rm1 : ∀ W : World, W.heap[M]? = some (.cells #[.bool a0, .bool a1, .int .i64 0, .bool true] 87 (0, 0)) → W.cell? ⟨M, 1, none⟩ = some (.bool a1) := fun W h => cell_heap h rfl
                      have rm2 : ∀ W : World, W.heap[M]? = some (.cells #[.bool a0, .bool a1, .int .i64 0, .bool true] 87 (0, 0)) → W.cell? ⟨M, 2, none⟩ = some (.int .i64 0) := fun W h => cell_heap h rfl
                      have rm3 : ∀ W : World, W.heap[M]? = some (.cells #[.bool a0, .bool a1, .int .i64 0, .bool true] 87 (0, 0)) → W.cell? ⟨M, 3, none⟩ = some (.bool true) := fun W h => cell_heap h rfl
                      have rs0 : ∀ W : World, W.heap[N + 1]? = some (.cells #[.bool false, .bool s1, .bool s2, .bool false] 95 (0, 0)) → W.cell? ⟨N + 1, 0, none⟩ = some (.bool false) := fun W h => cell_heap h rfl
                      have rs1 : ∀ W : World, W.heap[N + 1]? = some (.cells #[.bool false, .bool s1, .bool s2, .bool false] 95 (0, 0)) → W.cell? ⟨N + 1, 1, none⟩ = some (.bool s1) := fun W h => cell_heap h rfl
                      have rs2 : ∀ W : World, W.heap[N + 1]? = some (.cells #[.bool false, .bool s1, .bool s2, .bool false] 95 (0, 0)) → W.cell? ⟨N + 1, 2, none⟩ = some (.bool s2) := fun W h => cell_heap h rfl
                      have rs3 : ∀ W : World, W.heap[N + 1]? = some (.cells #[.bool false, .bool s1, .bool s2, .bool false] 95 (0, 0)) → W.cell? ⟨N + 1, 3, none⟩ = some (.bool false) := fun W h => cell_heap h rfl
                      refine wp_region_held_drew (S := (fun w' => Below w.heap.size w w' ∧ w'.heap[w.heap.size]? = some (.cells #[.slice A n c, .slice B m d, .int .i64 (x 0), .int .i64 (x 1), .int .i64 (x 2), .int .i64 (x 3), .int .i64 (x 4), .int .i64 (x 5)] 35 (0, 0)) ∧ w'.heap[N]? = some (.cells #[.bool a0, .bool a1, .int .i64 t, .bool false] 87 (0, 0)) ∧ w'.heap[N + 1]? = some (.cells #[.bool false, .bool s1, .bool s2, .bool false] 95 (0, 0)) ∧ w'.heap[M]? = some (.cells #[.bool a0, .bool a1, .int .i64 0, .bool true] 87 (0, 0)))) (by kernel_rfl) ?hSz31 (fun hHeld => ?rz31)
                      case hSz31 => exact ⟨drew_below BX.out, drew_heap X0.out, drew_heap X1.out, drew_heap X2.out, drew_heap X3.out⟩
                      show wpAnyH Try.prog .any _ _ _ 65 #[false, false, false, false, false, false, false, false, false, false, false, false, false, false, false, false, false, false, false, false, false, false, false, false, false, false, false, false, false, false, false, false, false, false, false, false, false, false, false, false, false, false, false, false, false, false, false, false, false, false, false, false, false, false, false, false, false, false, false, false, false, false, false, false, false] _ _
                      refine wpAnyH_take (i := 0) (oi := ?oi0z31) (v := ?v0z31) ?hi0z31 (by as_aux_lemma => kernel_rfl) (by as_aux_lemma => kernel_rfl) (by as_aux_lemma => kernel_rfl) ?hQ0z31 (Or.inl ⟨?hw0z31, ?hy0z31⟩) (by assumption) ?r0z31
                      case hi0z31 => (simp only [List.getElem?_toArray, List.getElem?_cons_succ, List.getElem?_cons_zero]; rfl)
                      case hQ0z31 => exact fun _ _ _ h => h
                      case hw0z31 => rfl
                      case hy0z31 => (intro w hSw; (try dsimp only at hSw); go_simp; (try with_reducible rfl))
                      (try simp only [Act.put, List.setIfInBounds_toArray, List.set_cons_zero, List.set_cons_succ])
                      refine wpAnyH_take (i := 1) (oi := ?oi1z31) (v := ?v1z31) ?hi1z31 (by as_aux_lemma => kernel_rfl) (by as_aux_lemma => kernel_rfl) (by as_aux_lemma => kernel_rfl) ?hQ1z31 (Or.inl ⟨?hw1z31, ?hy1z31⟩) (by assumption) ?r1z31
                      case hi1z31 => (simp only [List.getElem?_toArray, List.getElem?_cons_succ, List.getElem?_cons_zero]; rfl)
                      case hQ1z31 => exact fun _ _ _ h => h
                      case hw1z31 => rfl
                      case hy1z31 => (intro w hSw; (try dsimp only at hSw); go_simp; (try with_reducible rfl))
                      (try simp only [Act.put, List.setIfInBounds_toArray, List.set_cons_zero, List.set_cons_succ])
                      refine wpAnyH_take (i := 2) (oi := ?oi2z31) (v := ?v2z31) ?hi2z31 (by as_aux_lemma => kernel_rfl) (by as_aux_lemma => kernel_rfl) (by as_aux_lemma => kernel_rfl) ?hQ2z31 (Or.inl ⟨?hw2z31, ?hy2z31⟩) (by assumption) ?r2z31
                      case hi2z31 => (simp only [List.getElem?_toArray, List.getElem?_cons_succ, List.getElem?_cons_zero]; rfl)
                      case hQ2z31 => exact fun _ _ _ h => h
                      case hw2z31 => rfl
                      case hy2z31 => (intro w hSw; (try dsimp only at hSw); go_simp; (try with_reducible rfl))
                      (try simp only [Act.put, List.setIfInBounds_toArray, List.set_cons_zero, List.set_cons_succ])
                      refine wpAnyH_take (i := 3) (oi := ?oi3z31) (v := ?v3z31) ?hi3z31 (by as_aux_lemma => kernel_rfl) (by as_aux_lemma => kernel_rfl) (by as_aux_lemma => kernel_rfl) ?hQ3z31 (Or.inl ⟨?hw3z31, ?hy3z31⟩) (by assumption) ?r3z31
                      case hi3z31 => (simp only [List.getElem?_toArray, List.getElem?_cons_succ, List.getElem?_cons_zero]; rfl)
                      case hQ3z31 => exact fun _ _ _ h => h
                      case hw3z31 => rfl
                      case hy3z31 => (intro w hSw; (try dsimp only at hSw); go_simp; (try with_reducible rfl))
                      (try simp only [Act.put, List.setIfInBounds_toArray, List.set_cons_zero, List.set_cons_succ])
                      refine wpAnyH_take (i := 4) (oi := ?oi4z31) (v := ?v4z31) ?hi4z31 (by as_aux_lemma => kernel_rfl) (by as_aux_lemma => kernel_rfl) (by as_aux_lemma => kernel_rfl) ?hQ4z31 (Or.inl ⟨?hw4z31, ?hy4z31⟩) (by assumption) ?r4z31
                      case hi4z31 => (simp only [List.getElem?_toArray, List.getElem?_cons_succ, List.getElem?_cons_zero]; rfl)
                      case hQ4z31 => exact fun _ _ _ h => h
                      case hw4z31 => rfl
                      case hy4z31 => (intro w hSw; (try dsimp only at hSw); go_simp; (try with_reducible rfl))
                      (try simp only [Act.put, List.setIfInBounds_toArray, List.set_cons_zero, List.set_cons_succ])
                      refine wpAnyH_take (i := 5) (oi := ?oi5z31) (v := ?v5z31) ?hi5z31 (by as_aux_lemma => kernel_rfl) (by as_aux_lemma => kernel_rfl) (by as_aux_lemma => kernel_rfl) ?hQ5z31 (Or.inl ⟨?hw5z31, ?hy5z31⟩) (by assumption) ?r5z31
                      case hi5z31 => (simp only [List.getElem?_toArray, List.getElem?_cons_succ, List.getElem?_cons_zero]; rfl)
                      case hQ5z31 => exact fun _ _ _ h => h
                      case hw5z31 => rfl
                      case hy5z31 => (intro w hSw; (try dsimp only at hSw); go_simp; (try with_reducible rfl))
                      (try simp only [Act.put, List.setIfInBounds_toArray, List.set_cons_zero, List.set_cons_succ])
                      refine wpAnyH_take (i := 6) (oi := ?oi6z31) (v := ?v6z31) ?hi6z31 (by as_aux_lemma => kernel_rfl) (by as_aux_lemma => kernel_rfl) (by as_aux_lemma => kernel_rfl) ?hQ6z31 (Or.inl ⟨?hw6z31, ?hy6z31⟩) (by assumption) ?r6z31
                      case hi6z31 => (simp only [List.getElem?_toArray, List.getElem?_cons_succ, List.getElem?_cons_zero]; rfl)
                      case hQ6z31 => exact fun _ _ _ h => h
                      case hw6z31 => rfl
                      case hy6z31 => (intro w hSw; (try dsimp only at hSw); go_simp; (try with_reducible rfl))
                      (try simp only [Act.put, List.setIfInBounds_toArray, List.set_cons_zero, List.set_cons_succ])
                      refine wpAnyH_take (i := 7) (oi := ?oi7z31) (v := ?v7z31) ?hi7z31 (by as_aux_lemma => kernel_rfl) (by as_aux_lemma => kernel_rfl) (by as_aux_lemma => kernel_rfl) ?hQ7z31 (Or.inl ⟨?hw7z31, ?hy7z31⟩) (by assumption) ?r7z31
                      case hi7z31 => (simp only [List.getElem?_toArray, List.getElem?_cons_succ, List.getElem?_cons_zero]; rfl)
                      case hQ7z31 => exact fun _ _ _ h => h
                      case hw7z31 => rfl
                      case hy7z31 => (intro w hSw; (try dsimp only at hSw); go_simp; (try with_reducible rfl))
                      (try simp only [Act.put, List.setIfInBounds_toArray, List.set_cons_zero, List.set_cons_succ])
                      as_aux_lemma =>
                      refine wpAnyH_take (i := 8) (oi := ?oi8z31) (v := ?v8z31) ?hi8z31 (by as_aux_lemma => kernel_rfl) (by as_aux_lemma => kernel_rfl) (by as_aux_lemma => kernel_rfl) ?hQ8z31 (Or.inl ⟨?hw8z31, ?hy8z31⟩) (by assumption) ?r8z31
                      case hi8z31 => (simp only [List.getElem?_toArray, List.getElem?_cons_succ, List.getElem?_cons_zero]; rfl)
                      case hQ8z31 => exact fun _ _ _ h => h
                      case hw8z31 => rfl
                      case hy8z31 => (intro w hSw; (try dsimp only at hSw); go_simp; (try with_reducible rfl))
                      (try simp only [Act.put, List.setIfInBounds_toArray, List.set_cons_zero, List.set_cons_succ])
                      refine wpAnyH_take (i := 9) (oi := ?oi9z31) (v := ?v9z31) ?hi9z31 (by as_aux_lemma => kernel_rfl) (by as_aux_lemma => kernel_rfl) (by as_aux_lemma => kernel_rfl) ?hQ9z31 (Or.inl ⟨?hw9z31, ?hy9z31⟩) (by assumption) ?r9z31
                      case hi9z31 => (simp only [List.getElem?_toArray, List.getElem?_cons_succ, List.getElem?_cons_zero]; rfl)
                      case hQ9z31 => exact fun _ _ _ h => h
                      case hw9z31 => rfl
                      case hy9z31 => (intro w hSw; (try dsimp only at hSw); go_simp; (try with_reducible rfl))
                      (try simp only [Act.put, List.setIfInBounds_toArray, List.set_cons_zero, List.set_cons_succ])
                      refine wpAnyH_take (i := 10) (oi := ?oi10z31) (v := ?v10z31) ?hi10z31 (by as_aux_lemma => kernel_rfl) (by as_aux_lemma => kernel_rfl) (by as_aux_lemma => kernel_rfl) ?hQ10z31 (Or.inl ⟨?hw10z31, ?hy10z31⟩) (by assumption) ?r10z31
                      case hi10z31 => (simp only [List.getElem?_toArray, List.getElem?_cons_succ, List.getElem?_cons_zero]; rfl)
                      case hQ10z31 => exact fun _ _ _ h => h
                      case hw10z31 => rfl
                      case hy10z31 => (intro w hSw; (try dsimp only at hSw); go_simp; (try with_reducible rfl))
                      (try simp only [Act.put, List.setIfInBounds_toArray, List.set_cons_zero, List.set_cons_succ])
                      refine wpAnyH_take (i := 11) (oi := ?oi11z31) (v := ?v11z31) ?hi11z31 (by as_aux_lemma => kernel_rfl) (by as_aux_lemma => kernel_rfl) (by as_aux_lemma => kernel_rfl) ?hQ11z31 (Or.inl ⟨?hw11z31, ?hy11z31⟩) (by assumption) ?r11z31
                      case hi11z31 => (simp only [List.getElem?_toArray, List.getElem?_cons_succ, List.getElem?_cons_zero]; rfl)
                      case hQ11z31 => exact fun _ _ _ h => h
                      case hw11z31 => rfl
                      case hy11z31 => (intro w hSw; (try dsimp only at hSw); go_simp; (try with_reducible rfl))
                      (try simp only [Act.put, List.setIfInBounds_toArray, List.set_cons_zero, List.set_cons_succ])
                      refine wpAnyH_take (i := 12) (oi := ?oi12z31) (v := ?v12z31) ?hi12z31 (by as_aux_lemma => kernel_rfl) (by as_aux_lemma => kernel_rfl) (by as_aux_lemma => kernel_rfl) ?hQ12z31 (Or.inl ⟨?hw12z31, ?hy12z31⟩) (by assumption) ?r12z31
                      case hi12z31 => (simp only [List.getElem?_toArray, List.getElem?_cons_succ, List.getElem?_cons_zero]; rfl)
                      case hQ12z31 => exact fun _ _ _ h => h
                      case hw12z31 => rfl
                      case hy12z31 => (intro w hSw; (try dsimp only at hSw); go_simp; (try with_reducible rfl))
                      (try simp only [Act.put, List.setIfInBounds_toArray, List.set_cons_zero, List.set_cons_succ])
                      refine wpAnyH_take (i := 13) (oi := ?oi13z31) (v := ?v13z31) ?hi13z31 (by as_aux_lemma => kernel_rfl) (by as_aux_lemma => kernel_rfl) (by as_aux_lemma => kernel_rfl) ?hQ13z31 (Or.inl ⟨?hw13z31, ?hy13z31⟩) (by assumption) ?r13z31
                      case hi13z31 => (simp only [List.getElem?_toArray, List.getElem?_cons_succ, List.getElem?_cons_zero]; rfl)
                      case hQ13z31 => exact fun _ _ _ h => h
                      case hw13z31 => rfl
                      case hy13z31 => (intro w hSw; (try dsimp only at hSw); go_simp; (try with_reducible rfl))
                      (try simp only [Act.put, List.setIfInBounds_toArray, List.set_cons_zero, List.set_cons_succ])
                      refine wpAnyH_take (i := 14) (oi := ?oi14z31) (v := ?v14z31) ?hi14z31 (by as_aux_lemma => kernel_rfl) (by as_aux_lemma => kernel_rfl) (by as_aux_lemma => kernel_rfl) ?hQ14z31 (Or.inl ⟨?hw14z31, ?hy14z31⟩) (by assumption) ?r14z31
                      case hi14z31 => (simp only [List.getElem?_toArray, List.getElem?_cons_succ, List.getElem?_cons_zero]; rfl)
                      case hQ14z31 => exact fun _ _ _ h => h
                      case hw14z31 => rfl
                      case hy14z31 => (intro w hSw; (try dsimp only at hSw); go_simp; (try with_reducible rfl))
                      (try simp only [Act.put, List.setIfInBounds_toArray, List.set_cons_zero, List.set_cons_succ])
                      refine wpAnyH_take (i := 15) (oi := ?oi15z31) (v := ?v15z31) ?hi15z31 (by as_aux_lemma => kernel_rfl) (by as_aux_lemma => kernel_rfl) (by as_aux_lemma => kernel_rfl) ?hQ15z31 (Or.inl ⟨?hw15z31, ?hy15z31⟩) (by assumption) ?r15z31
                      case hi15z31 => (simp only [List.getElem?_toArray, List.getElem?_cons_succ, List.getElem?_cons_zero]; rfl)
                      case hQ15z31 => exact fun _ _ _ h => h
                      case hw15z31 => rfl
                      case hy15z31 => (intro w hSw; (try dsimp only at hSw); go_simp; (try with_reducible rfl))
                      (try simp only [Act.put, List.setIfInBounds_toArray, List.set_cons_zero, List.set_cons_succ])
                      as_aux_lemma =>
                      refine wpAnyH_take (i := 16) (oi := ?oi16z31) (v := ?v16z31) ?hi16z31 (by as_aux_lemma => kernel_rfl) (by as_aux_lemma => kernel_rfl) (by as_aux_lemma => kernel_rfl) ?hQ16z31 (Or.inl ⟨?hw16z31, ?hy16z31⟩) (by assumption) ?r16z31
                      case hi16z31 => (simp only [List.getElem?_toArray, List.getElem?_cons_succ, List.getElem?_cons_zero]; rfl)
                      case hQ16z31 => exact fun _ _ _ h => h
                      case hw16z31 => rfl
                      case hy16z31 => (intro w hSw; (try dsimp only at hSw); go_simp; (try with_reducible rfl))
                      (try simp only [Act.put, List.setIfInBounds_toArray, List.set_cons_zero, List.set_cons_succ])
                      refine wpAnyH_take (i := 17) (oi := ?oi17z31) (v := ?v17z31) ?hi17z31 (by as_aux_lemma => kernel_rfl) (by as_aux_lemma => kernel_rfl) (by as_aux_lemma => kernel_rfl) ?hQ17z31 (Or.inl ⟨?hw17z31, ?hy17z31⟩) (by assumption) ?r17z31
                      case hi17z31 => (simp only [List.getElem?_toArray, List.getElem?_cons_succ, List.getElem?_cons_zero]; rfl)
                      case hQ17z31 => exact fun _ _ _ h => h
                      case hw17z31 => rfl
                      case hy17z31 => (intro w hSw; (try dsimp only at hSw); go_simp; (try with_reducible rfl))
                      (try simp only [Act.put, List.setIfInBounds_toArray, List.set_cons_zero, List.set_cons_succ])
                      refine wpAnyH_take (i := 18) (oi := ?oi18z31) (v := ?v18z31) ?hi18z31 (by as_aux_lemma => kernel_rfl) (by as_aux_lemma => kernel_rfl) (by as_aux_lemma => kernel_rfl) ?hQ18z31 (Or.inl ⟨?hw18z31, ?hy18z31⟩) (by assumption) ?r18z31
                      case hi18z31 => (simp only [List.getElem?_toArray, List.getElem?_cons_succ, List.getElem?_cons_zero]; rfl)
                      case hQ18z31 => exact fun _ _ _ h => h
                      case hw18z31 => rfl
                      case hy18z31 => (intro w hSw; (try dsimp only at hSw); go_simp; (try with_reducible rfl))
                      (try simp only [Act.put, List.setIfInBounds_toArray, List.set_cons_zero, List.set_cons_succ])
                      refine wpAnyH_take (i := 19) (oi := ?oi19z31) (v := ?v19z31) ?hi19z31 (by as_aux_lemma => kernel_rfl) (by as_aux_lemma => kernel_rfl) (by as_aux_lemma => kernel_rfl) ?hQ19z31 (Or.inl ⟨?hw19z31, ?hy19z31⟩) (by assumption) ?r19z31
                      case hi19z31 => (simp only [List.getElem?_toArray, List.getElem?_cons_succ, List.getElem?_cons_zero]; rfl)
                      case hQ19z31 => exact fun _ _ _ h => h
                      case hw19z31 => rfl
                      case hy19z31 => (intro w hSw; (try dsimp only at hSw); go_simp; (try with_reducible rfl))
                      (try simp only [Act.put, List.setIfInBounds_toArray, List.set_cons_zero, List.set_cons_succ])
                      refine wpAnyH_take (i := 20) (oi := ?oi20z31) (v := ?v20z31) ?hi20z31 (by as_aux_lemma => kernel_rfl) (by as_aux_lemma => kernel_rfl) (by as_aux_lemma => kernel_rfl) ?hQ20z31 (Or.inl ⟨?hw20z31, ?hy20z31⟩) (by assumption) ?r20z31
                      case hi20z31 => (simp only [List.getElem?_toArray, List.getElem?_cons_succ, List.getElem?_cons_zero]; rfl)
                      case hQ20z31 => exact fun _ _ _ h => h
                      case hw20z31 => rfl
                      case hy20z31 => (intro w hSw; (try dsimp only at hSw); go_simp; (try with_reducible rfl))
                      (try simp only [Act.put, List.setIfInBounds_toArray, List.set_cons_zero, List.set_cons_succ])
                      refine wpAnyH_take (i := 21) (oi := ?oi21z31) (v := undef) ?hi21z31 (by as_aux_lemma => kernel_rfl) (by as_aux_lemma => kernel_rfl) (by as_aux_lemma => kernel_rfl) ?hQ21z31 (Or.inr ⟨?hw21z31, rfl⟩) (by assumption) ?r21z31
                      case hi21z31 => (simp only [List.getElem?_toArray, List.getElem?_cons_succ, List.getElem?_cons_zero]; rfl)
                      case hQ21z31 => exact fun _ _ _ h => h
                      case hw21z31 => rfl
                      (try simp only [Act.put, List.setIfInBounds_toArray, List.set_cons_zero, List.set_cons_succ])
                      refine wpAnyH_take (i := 22) (oi := ?oi22z31) (v := ?v22z31) ?hi22z31 (by as_aux_lemma => kernel_rfl) (by as_aux_lemma => kernel_rfl) (by as_aux_lemma => kernel_rfl) ?hQ22z31 (Or.inl ⟨?hw22z31, ?hy22z31⟩) (by assumption) ?r22z31
                      case hi22z31 => (simp only [List.getElem?_toArray, List.getElem?_cons_succ, List.getElem?_cons_zero]; rfl)
                      case hQ22z31 => exact fun _ _ _ h => h
                      case hw22z31 => rfl
                      case hy22z31 => (intro w hSw; (try dsimp only at hSw); go_simp; (try with_reducible rfl))
                      (try simp only [Act.put, List.setIfInBounds_toArray, List.set_cons_zero, List.set_cons_succ])
                      refine wpAnyH_take (i := 23) (oi := ?oi23z31) (v := ?v23z31) ?hi23z31 (by as_aux_lemma => kernel_rfl) (by as_aux_lemma => kernel_rfl) (by as_aux_lemma => kernel_rfl) ?hQ23z31 (Or.inl ⟨?hw23z31, ?hy23z31⟩) (by assumption) ?r23z31
                      case hi23z31 => (simp only [List.getElem?_toArray, List.getElem?_cons_succ, List.getElem?_cons_zero]; rfl)
                      case hQ23z31 => exact fun _ _ _ h => h
                      case hw23z31 => rfl
                      case hy23z31 => (intro w hSw; (try dsimp only at hSw); go_simp; (try with_reducible rfl))
                      (try simp only [Act.put, List.setIfInBounds_toArray, List.set_cons_zero, List.set_cons_succ])
                      as_aux_lemma =>
                      refine wpAnyH_take (i := 24) (oi := ?oi24z31) (v := ?v24z31) ?hi24z31 (by as_aux_lemma => kernel_rfl) (by as_aux_lemma => kernel_rfl) (by as_aux_lemma => kernel_rfl) ?hQ24z31 (Or.inl ⟨?hw24z31, ?hy24z31⟩) (by assumption) ?r24z31
                      case hi24z31 => (simp only [List.getElem?_toArray, List.getElem?_cons_succ, List.getElem?_cons_zero]; rfl)
                      case hQ24z31 => exact fun _ _ _ h => h
                      case hw24z31 => rfl
                      case hy24z31 => (intro w hSw; (try dsimp only at hSw); go_simp; (try with_reducible rfl))
                      (try simp only [Act.put, List.setIfInBounds_toArray, List.set_cons_zero, List.set_cons_succ])
                      refine wpAnyH_take (i := 25) (oi := ?oi25z31) (v := ?v25z31) ?hi25z31 (by as_aux_lemma => kernel_rfl) (by as_aux_lemma => kernel_rfl) (by as_aux_lemma => kernel_rfl) ?hQ25z31 (Or.inl ⟨?hw25z31, ?hy25z31⟩) (by assumption) ?r25z31
                      case hi25z31 => (simp only [List.getElem?_toArray, List.getElem?_cons_succ, List.getElem?_cons_zero]; rfl)
                      case hQ25z31 => exact fun _ _ _ h => h
                      case hw25z31 => rfl
                      case hy25z31 => (intro w hSw; (try dsimp only at hSw); go_simp; (try with_reducible rfl))
                      (try simp only [Act.put, List.setIfInBounds_toArray, List.set_cons_zero, List.set_cons_succ])
                      refine wpAnyH_take (i := 26) (oi := ?oi26z31) (v := ?v26z31) ?hi26z31 (by as_aux_lemma => kernel_rfl) (by as_aux_lemma => kernel_rfl) (by as_aux_lemma => kernel_rfl) ?hQ26z31 (Or.inl ⟨?hw26z31, ?hy26z31⟩) (by assumption) ?r26z31
                      case hi26z31 => (simp only [List.getElem?_toArray, List.getElem?_cons_succ, List.getElem?_cons_zero]; rfl)
                      case hQ26z31 => exact fun _ _ _ h => h
                      case hw26z31 => rfl
                      case hy26z31 => (intro w hSw; (try dsimp only at hSw); go_simp; (try with_reducible rfl))
                      (try simp only [Act.put, List.setIfInBounds_toArray, List.set_cons_zero, List.set_cons_succ])
                      refine wpAnyH_take (i := 27) (oi := ?oi27z31) (v := ?v27z31) ?hi27z31 (by as_aux_lemma => kernel_rfl) (by as_aux_lemma => kernel_rfl) (by as_aux_lemma => kernel_rfl) ?hQ27z31 (Or.inl ⟨?hw27z31, ?hy27z31⟩) (by assumption) ?r27z31
                      case hi27z31 => (simp only [List.getElem?_toArray, List.getElem?_cons_succ, List.getElem?_cons_zero]; rfl)
                      case hQ27z31 => exact fun _ _ _ h => h
                      case hw27z31 => rfl
                      case hy27z31 => (intro w hSw; (try dsimp only at hSw); go_simp; (try with_reducible rfl))
                      (try simp only [Act.put, List.setIfInBounds_toArray, List.set_cons_zero, List.set_cons_succ])
                      refine wpAnyH_take (i := 28) (oi := ?oi28z31) (v := ?v28z31) ?hi28z31 (by as_aux_lemma => kernel_rfl) (by as_aux_lemma => kernel_rfl) (by as_aux_lemma => kernel_rfl) ?hQ28z31 (Or.inl ⟨?hw28z31, ?hy28z31⟩) (by assumption) ?r28z31
                      case hi28z31 => (simp only [List.getElem?_toArray, List.getElem?_cons_succ, List.getElem?_cons_zero]; rfl)
                      case hQ28z31 => exact fun _ _ _ h => h
                      case hw28z31 => rfl
                      case hy28z31 => (intro w hSw; (try dsimp only at hSw); go_simp; (try with_reducible rfl))
                      (try simp only [Act.put, List.setIfInBounds_toArray, List.set_cons_zero, List.set_cons_succ])
                      refine wpAnyH_take (i := 29) (oi := ?oi29z31) (v := ?v29z31) ?hi29z31 (by as_aux_lemma => kernel_rfl) (by as_aux_lemma => kernel_rfl) (by as_aux_lemma => kernel_rfl) ?hQ29z31 (Or.inl ⟨?hw29z31, ?hy29z31⟩) (by assumption) ?r29z31
                      case hi29z31 => (simp only [List.getElem?_toArray, List.getElem?_cons_succ, List.getElem?_cons_zero]; rfl)
                      case hQ29z31 => exact fun _ _ _ h => h
                      case hw29z31 => rfl
                      case hy29z31 => (intro w hSw; (try dsimp only at hSw); go_simp; (try with_reducible rfl))
                      (try simp only [Act.put, List.setIfInBounds_toArray, List.set_cons_zero, List.set_cons_succ])
                      refine wpAnyH_take (i := 30) (oi := ?oi30z31) (v := undef) ?hi30z31 (by as_aux_lemma => kernel_rfl) (by as_aux_lemma => kernel_rfl) (by as_aux_lemma => kernel_rfl) ?hQ30z31 (Or.inr ⟨?hw30z31, rfl⟩) (by assumption) ?r30z31
                      case hi30z31 => (simp only [List.getElem?_toArray, List.getElem?_cons_succ, List.getElem?_cons_zero]; rfl)
                      case hQ30z31 => exact fun _ _ _ h => h
                      case hw30z31 => rfl
                      (try simp only [Act.put, List.setIfInBounds_toArray, List.set_cons_zero, List.set_cons_succ])
                      refine wpAnyH_take (i := 31) (oi := ?oi31z31) (v := undef) ?hi31z31 (by as_aux_lemma => kernel_rfl) (by as_aux_lemma => kernel_rfl) (by as_aux_lemma => kernel_rfl) ?hQ31z31 (Or.inr ⟨?hw31z31, rfl⟩) (by assumption) ?r31z31
                      case hi31z31 => (simp only [List.getElem?_toArray, List.getElem?_cons_succ, List.getElem?_cons_zero]; rfl)
                      case hQ31z31 => exact fun _ _ _ h => h
                      case hw31z31 => rfl
                      (try simp only [Act.put, List.setIfInBounds_toArray, List.set_cons_zero, List.set_cons_succ])
                      as_aux_lemma =>
                      refine wpAnyH_take (i := 32) (oi := ?oi32z31) (v := undef) ?hi32z31 (by as_aux_lemma => kernel_rfl) (by as_aux_lemma => kernel_rfl) (by as_aux_lemma => kernel_rfl) ?hQ32z31 (Or.inr ⟨?hw32z31, rfl⟩) (by assumption) ?r32z31
                      case hi32z31 => (simp only [List.getElem?_toArray, List.getElem?_cons_succ, List.getElem?_cons_zero]; rfl)
                      case hQ32z31 => exact fun _ _ _ h => h
                      case hw32z31 => rfl
                      (try simp only [Act.put, List.setIfInBounds_toArray, List.set_cons_zero, List.set_cons_succ])
                      refine wpAnyH_take (i := 33) (oi := ?oi33z31) (v := ?v33z31) ?hi33z31 (by as_aux_lemma => kernel_rfl) (by as_aux_lemma => kernel_rfl) (by as_aux_lemma => kernel_rfl) ?hQ33z31 (Or.inl ⟨?hw33z31, ?hy33z31⟩) (by assumption) ?r33z31
                      case hi33z31 => (simp only [List.getElem?_toArray, List.getElem?_cons_succ, List.getElem?_cons_zero]; rfl)
                      case hQ33z31 => exact fun _ _ _ h => h
                      case hw33z31 => rfl
                      case hy33z31 => (intro w hSw; (try dsimp only at hSw); go_simp; (try with_reducible rfl))
                      (try simp only [Act.put, List.setIfInBounds_toArray, List.set_cons_zero, List.set_cons_succ])
                      refine wpAnyH_take (i := 34) (oi := ?oi34z31) (v := ?v34z31) ?hi34z31 (by as_aux_lemma => kernel_rfl) (by as_aux_lemma => kernel_rfl) (by as_aux_lemma => kernel_rfl) ?hQ34z31 (Or.inl ⟨?hw34z31, ?hy34z31⟩) (by assumption) ?r34z31
                      case hi34z31 => (simp only [List.getElem?_toArray, List.getElem?_cons_succ, List.getElem?_cons_zero]; rfl)
                      case hQ34z31 => exact fun _ _ _ h => h
                      case hw34z31 => rfl
                      case hy34z31 => (intro w hSw; (try dsimp only at hSw); go_simp; (try with_reducible rfl))
                      (try simp only [Act.put, List.setIfInBounds_toArray, List.set_cons_zero, List.set_cons_succ])
                      refine wpAnyH_take (i := 35) (oi := ?oi35z31) (v := ?v35z31) ?hi35z31 (by as_aux_lemma => kernel_rfl) (by as_aux_lemma => kernel_rfl) (by as_aux_lemma => kernel_rfl) ?hQ35z31 (Or.inl ⟨?hw35z31, ?hy35z31⟩) (by assumption) ?r35z31
                      case hi35z31 => (simp only [List.getElem?_toArray, List.getElem?_cons_succ, List.getElem?_cons_zero]; rfl)
                      case hQ35z31 => exact fun _ _ _ h => h
                      case hw35z31 => rfl
                      case hy35z31 => (intro w hSw; (try dsimp only at hSw); go_simp; (try with_reducible rfl))
                      (try simp only [Act.put, List.setIfInBounds_toArray, List.set_cons_zero, List.set_cons_succ])
                      refine wpAnyH_take (i := 36) (oi := ?oi36z31) (v := ?v36z31) ?hi36z31 (by as_aux_lemma => kernel_rfl) (by as_aux_lemma => kernel_rfl) (by as_aux_lemma => kernel_rfl) ?hQ36z31 (Or.inl ⟨?hw36z31, ?hy36z31⟩) (by assumption) ?r36z31
                      case hi36z31 => (simp only [List.getElem?_toArray, List.getElem?_cons_succ, List.getElem?_cons_zero]; rfl)
                      case hQ36z31 => exact fun _ _ _ h => h
                      case hw36z31 => rfl
                      case hy36z31 => (intro w hSw; (try dsimp only at hSw); go_simp; (try with_reducible rfl))
                      (try simp only [Act.put, List.setIfInBounds_toArray, List.set_cons_zero, List.set_cons_succ])
                      refine wpAnyH_take (i := 37) (oi := ?oi37z31) (v := ?v37z31) ?hi37z31 (by as_aux_lemma => kernel_rfl) (by as_aux_lemma => kernel_rfl) (by as_aux_lemma => kernel_rfl) ?hQ37z31 (Or.inl ⟨?hw37z31, ?hy37z31⟩) (by assumption) ?r37z31
                      case hi37z31 => (simp only [List.getElem?_toArray, List.getElem?_cons_succ, List.getElem?_cons_zero]; rfl)
                      case hQ37z31 => exact fun _ _ _ h => h
                      case hw37z31 => rfl
                      case hy37z31 => (intro w hSw; (try dsimp only at hSw); go_simp; (try with_reducible rfl))
                      (try simp only [Act.put, List.setIfInBounds_toArray, List.set_cons_zero, List.set_cons_succ])
                      refine wpAnyH_take (i := 38) (oi := ?oi38z31) (v := ?v38z31) ?hi38z31 (by as_aux_lemma => kernel_rfl) (by as_aux_lemma => kernel_rfl) (by as_aux_lemma => kernel_rfl) ?hQ38z31 (Or.inl ⟨?hw38z31, ?hy38z31⟩) (by assumption) ?r38z31
                      case hi38z31 => (simp only [List.getElem?_toArray, List.getElem?_cons_succ, List.getElem?_cons_zero]; rfl)
                      case hQ38z31 => exact fun _ _ _ h => h
                      case hw38z31 => rfl
                      case hy38z31 => (intro w hSw; (try dsimp only at hSw); go_simp; (try with_reducible rfl))
                      (try simp only [Act.put, List.setIfInBounds_toArray, List.set_cons_zero, List.set_cons_succ])
                      refine wpAnyH_take (i := 39) (oi := ?oi39z31) (v := ?v39z31) ?hi39z31 (by as_aux_lemma => kernel_rfl) (by as_aux_lemma => kernel_rfl) (by as_aux_lemma => kernel_rfl) ?hQ39z31 (Or.inl ⟨?hw39z31, ?hy39z31⟩) (by assumption) ?r39z31
                      case hi39z31 => (simp only [List.getElem?_toArray, List.getElem?_cons_succ, List.getElem?_cons_zero]; rfl)
                      case hQ39z31 => exact fun _ _ _ h => h
                      case hw39z31 => rfl
                      case hy39z31 => (intro w hSw; (try dsimp only at hSw); go_simp; (try with_reducible rfl))
                      (try simp only [Act.put, List.setIfInBounds_toArray, List.set_cons_zero, List.set_cons_succ])
                      as_aux_lemma =>
                      refine wpAnyH_take (i := 40) (oi := ?oi40z31) (v := ?v40z31) ?hi40z31 (by as_aux_lemma => kernel_rfl) (by as_aux_lemma => kernel_rfl) (by as_aux_lemma => kernel_rfl) ?hQ40z31 (Or.inl ⟨?hw40z31, ?hy40z31⟩) (by assumption) ?r40z31
                      case hi40z31 => (simp only [List.getElem?_toArray, List.getElem?_cons_succ, List.getElem?_cons_zero]; rfl)
                      case hQ40z31 => exact fun _ _ _ h => h
                      case hw40z31 => rfl
                      case hy40z31 => (intro w hSw; (try dsimp only at hSw); go_simp; (try with_reducible rfl))
                      (try simp only [Act.put, List.setIfInBounds_toArray, List.set_cons_zero, List.set_cons_succ])
                      refine wpAnyH_take (i := 41) (oi := ?oi41z31) (v := ?v41z31) ?hi41z31 (by as_aux_lemma => kernel_rfl) (by as_aux_lemma => kernel_rfl) (by as_aux_lemma => kernel_rfl) ?hQ41z31 (Or.inl ⟨?hw41z31, ?hy41z31⟩) (by assumption) ?r41z31
                      case hi41z31 => (simp only [List.getElem?_toArray, List.getElem?_cons_succ, List.getElem?_cons_zero]; rfl)
                      case hQ41z31 => exact fun _ _ _ h => h
                      case hw41z31 => rfl
                      case hy41z31 => (intro w hSw; (try dsimp only at hSw); go_simp; (try with_reducible rfl))
                      (try simp only [Act.put, List.setIfInBounds_toArray, List.set_cons_zero, List.set_cons_succ])
                      refine wpAnyH_take (i := 42) (oi := ?oi42z31) (v := ?v42z31) ?hi42z31 (by as_aux_lemma => kernel_rfl) (by as_aux_lemma => kernel_rfl) (by as_aux_lemma => kernel_rfl) ?hQ42z31 (Or.inl ⟨?hw42z31, ?hy42z31⟩) (by assumption) ?r42z31
                      case hi42z31 => (simp only [List.getElem?_toArray, List.getElem?_cons_succ, List.getElem?_cons_zero]; rfl)
                      case hQ42z31 => exact fun _ _ _ h => h
                      case hw42z31 => rfl
                      case hy42z31 => (intro w hSw; (try dsimp only at hSw); go_simp; (try with_reducible rfl))
                      (try simp only [Act.put, List.setIfInBounds_toArray, List.set_cons_zero, List.set_cons_succ])
                      refine wpAnyH_take (i := 43) (oi := ?oi43z31) (v := undef) ?hi43z31 (by as_aux_lemma => kernel_rfl) (by as_aux_lemma => kernel_rfl) (by as_aux_lemma => kernel_rfl) ?hQ43z31 (Or.inr ⟨?hw43z31, rfl⟩) (by assumption) ?r43z31
                      case hi43z31 => (simp only [List.getElem?_toArray, List.getElem?_cons_succ, List.getElem?_cons_zero]; rfl)
                      case hQ43z31 => exact fun _ _ _ h => h
                      case hw43z31 => rfl
                      (try simp only [Act.put, List.setIfInBounds_toArray, List.set_cons_zero, List.set_cons_succ])
                      refine wpAnyH_take (i := 44) (oi := ?oi44z31) (v := undef) ?hi44z31 (by as_aux_lemma => kernel_rfl) (by as_aux_lemma => kernel_rfl) (by as_aux_lemma => kernel_rfl) ?hQ44z31 (Or.inr ⟨?hw44z31, rfl⟩) (by assumption) ?r44z31
                      case hi44z31 => (simp only [List.getElem?_toArray, List.getElem?_cons_succ, List.getElem?_cons_zero]; rfl)
                      case hQ44z31 => exact fun _ _ _ h => h
                      case hw44z31 => rfl
                      (try simp only [Act.put, List.setIfInBounds_toArray, List.set_cons_zero, List.set_cons_succ])
                      refine wpAnyH_take (i := 45) (oi := ?oi45z31) (v := undef) ?hi45z31 (by as_aux_lemma => kernel_rfl) (by as_aux_lemma => kernel_rfl) (by as_aux_lemma => kernel_rfl) ?hQ45z31 (Or.inr ⟨?hw45z31, rfl⟩) (by assumption) ?r45z31
                      case hi45z31 => (simp only [List.getElem?_toArray, List.getElem?_cons_succ, List.getElem?_cons_zero]; rfl)
                      case hQ45z31 => exact fun _ _ _ h => h
                      case hw45z31 => rfl
                      (try simp only [Act.put, List.setIfInBounds_toArray, List.set_cons_zero, List.set_cons_succ])
                      refine wpAnyH_take (i := 46) (oi := ?oi46z31) (v := undef) ?hi46z31 (by as_aux_lemma => kernel_rfl) (by as_aux_lemma => kernel_rfl) (by as_aux_lemma => kernel_rfl) ?hQ46z31 (Or.inr ⟨?hw46z31, rfl⟩) (by assumption) ?r46z31
                      case hi46z31 => (simp only [List.getElem?_toArray, List.getElem?_cons_succ, List.getElem?_cons_zero]; rfl)
                      case hQ46z31 => exact fun _ _ _ h => h
                      case hw46z31 => rfl
                      (try simp only [Act.put, List.setIfInBounds_toArray, List.set_cons_zero, List.set_cons_succ])
                      refine wpAnyH_take (i := 47) (oi := ?oi47z31) (v := undef) ?hi47z31 (by as_aux_lemma => kernel_rfl) (by as_aux_lemma => kernel_rfl) (by as_aux_lemma => kernel_rfl) ?hQ47z31 (Or.inr ⟨?hw47z31, rfl⟩) (by assumption) ?r47z31
                      case hi47z31 => (simp only [List.getElem?_toArray, List.getElem?_cons_succ, List.getElem?_cons_zero]; rfl)
                      case hQ47z31 => exact fun _ _ _ h => h
                      case hw47z31 => rfl
                      (try simp only [Act.put, List.setIfInBounds_toArray, List.set_cons_zero, List.set_cons_succ])
                      as_aux_lemma =>
                      refine wpAnyH_take (i := 48) (oi := ?oi48z31) (v := undef) ?hi48z31 (by as_aux_lemma => kernel_rfl) (by as_aux_lemma => kernel_rfl) (by as_aux_lemma => kernel_rfl) ?hQ48z31 (Or.inr ⟨?hw48z31, rfl⟩) (by assumption) ?r48z31
                      case hi48z31 => (simp only [List.getElem?_toArray, List.getElem?_cons_succ, List.getElem?_cons_zero]; rfl)
                      case hQ48z31 => exact fun _ _ _ h => h
                      case hw48z31 => rfl
                      (try simp only [Act.put, List.setIfInBounds_toArray, List.set_cons_zero, List.set_cons_succ])
                      refine wpAnyH_take (i := 49) (oi := ?oi49z31) (v := undef) ?hi49z31 (by as_aux_lemma => kernel_rfl) (by as_aux_lemma => kernel_rfl) (by as_aux_lemma => kernel_rfl) ?hQ49z31 (Or.inr ⟨?hw49z31, rfl⟩) (by assumption) ?r49z31
                      case hi49z31 => (simp only [List.getElem?_toArray, List.getElem?_cons_succ, List.getElem?_cons_zero]; rfl)
                      case hQ49z31 => exact fun _ _ _ h => h
                      case hw49z31 => rfl
                      (try simp only [Act.put, List.setIfInBounds_toArray, List.set_cons_zero, List.set_cons_succ])
                      refine wpAnyH_take (i := 50) (oi := ?oi50z31) (v := undef) ?hi50z31 (by as_aux_lemma => kernel_rfl) (by as_aux_lemma => kernel_rfl) (by as_aux_lemma => kernel_rfl) ?hQ50z31 (Or.inr ⟨?hw50z31, rfl⟩) (by assumption) ?r50z31
                      case hi50z31 => (simp only [List.getElem?_toArray, List.getElem?_cons_succ, List.getElem?_cons_zero]; rfl)
                      case hQ50z31 => exact fun _ _ _ h => h
                      case hw50z31 => rfl
                      (try simp only [Act.put, List.setIfInBounds_toArray, List.set_cons_zero, List.set_cons_succ])
                      refine wpAnyH_take (i := 51) (oi := ?oi51z31) (v := ?v51z31) ?hi51z31 (by as_aux_lemma => kernel_rfl) (by as_aux_lemma => kernel_rfl) (by as_aux_lemma => kernel_rfl) ?hQ51z31 (Or.inl ⟨?hw51z31, ?hy51z31⟩) (by assumption) ?r51z31
                      case hi51z31 => (simp only [List.getElem?_toArray, List.getElem?_cons_succ, List.getElem?_cons_zero]; rfl)
                      case hQ51z31 => exact fun _ _ _ h => h
                      case hw51z31 => rfl
                      case hy51z31 => (intro w hSw; (try dsimp only at hSw); go_simp; (try with_reducible rfl))
                      (try simp only [Act.put, List.setIfInBounds_toArray, List.set_cons_zero, List.set_cons_succ])
                      refine wpAnyH_take (i := 52) (oi := ?oi52z31) (v := ?v52z31) ?hi52z31 (by as_aux_lemma => kernel_rfl) (by as_aux_lemma => kernel_rfl) (by as_aux_lemma => kernel_rfl) ?hQ52z31 (Or.inl ⟨?hw52z31, ?hy52z31⟩) (by assumption) ?r52z31
                      case hi52z31 => (simp only [List.getElem?_toArray, List.getElem?_cons_succ, List.getElem?_cons_zero]; rfl)
                      case hQ52z31 => exact fun _ _ _ h => h
                      case hw52z31 => rfl
                      case hy52z31 => (intro w hSw; (try dsimp only at hSw); go_simp; (try with_reducible rfl))
                      (try simp only [Act.put, List.setIfInBounds_toArray, List.set_cons_zero, List.set_cons_succ])
                      refine wpAnyH_take (i := 53) (oi := ?oi53z31) (v := ?v53z31) ?hi53z31 (by as_aux_lemma => kernel_rfl) (by as_aux_lemma => kernel_rfl) (by as_aux_lemma => kernel_rfl) ?hQ53z31 (Or.inl ⟨?hw53z31, ?hy53z31⟩) (by assumption) ?r53z31
                      case hi53z31 => (simp only [List.getElem?_toArray, List.getElem?_cons_succ, List.getElem?_cons_zero]; rfl)
                      case hQ53z31 => exact fun _ _ _ h => h
                      case hw53z31 => rfl
                      case hy53z31 => (intro w hSw; (try dsimp only at hSw); go_simp; (try with_reducible rfl))
                      (try simp only [Act.put, List.setIfInBounds_toArray, List.set_cons_zero, List.set_cons_succ])
                      refine wpAnyH_take (i := 54) (oi := ?oi54z31) (v := ?v54z31) ?hi54z31 (by as_aux_lemma => kernel_rfl) (by as_aux_lemma => kernel_rfl) (by as_aux_lemma => kernel_rfl) ?hQ54z31 (Or.inl ⟨?hw54z31, ?hy54z31⟩) (by assumption) ?r54z31
                      case hi54z31 => (simp only [List.getElem?_toArray, List.getElem?_cons_succ, List.getElem?_cons_zero]; rfl)
                      case hQ54z31 => exact fun _ _ _ h => h
                      case hw54z31 => rfl
                      case hy54z31 => (intro w hSw; (try dsimp only at hSw); go_simp; (try with_reducible rfl))
                      (try simp only [Act.put, List.setIfInBounds_toArray, List.set_cons_zero, List.set_cons_succ])
                      refine wpAnyH_take (i := 55) (oi := ?oi55z31) (v := ?v55z31) ?hi55z31 (by as_aux_lemma => kernel_rfl) (by as_aux_lemma => kernel_rfl) (by as_aux_lemma => kernel_rfl) ?hQ55z31 (Or.inl ⟨?hw55z31, ?hy55z31⟩) (by assumption) ?r55z31
                      case hi55z31 => (simp only [List.getElem?_toArray, List.getElem?_cons_succ, List.getElem?_cons_zero]; rfl)
                      case hQ55z31 => exact fun _ _ _ h => h
                      case hw55z31 => rfl
                      case hy55z31 => (intro w hSw; (try dsimp only at hSw); go_simp; (try with_reducible rfl))
                      (try simp only [Act.put, List.setIfInBounds_toArray, List.set_cons_zero, List.set_cons_succ])
                      as_aux_lemma =>
                      refine wpAnyH_take (i := 56) (oi := ?oi56z31) (v := ?v56z31) ?hi56z31 (by as_aux_lemma => kernel_rfl) (by as_aux_lemma => kernel_rfl) (by as_aux_lemma => kernel_rfl) ?hQ56z31 (Or.inl ⟨?hw56z31, ?hy56z31⟩) (by assumption) ?r56z31
                      case hi56z31 => (simp only [List.getElem?_toArray, List.getElem?_cons_succ, List.getElem?_cons_zero]; rfl)
                      case hQ56z31 => exact fun _ _ _ h => h
                      case hw56z31 => rfl
                      case hy56z31 => (intro w hSw; (try dsimp only at hSw); go_simp; (try with_reducible rfl))
                      (try simp only [Act.put, List.setIfInBounds_toArray, List.set_cons_zero, List.set_cons_succ])
                      refine wpAnyH_take (i := 57) (oi := ?oi57z31) (v := ?v57z31) ?hi57z31 (by as_aux_lemma => kernel_rfl) (by as_aux_lemma => kernel_rfl) (by as_aux_lemma => kernel_rfl) ?hQ57z31 (Or.inl ⟨?hw57z31, ?hy57z31⟩) (by assumption) ?r57z31
                      case hi57z31 => (simp only [List.getElem?_toArray, List.getElem?_cons_succ, List.getElem?_cons_zero]; rfl)
                      case hQ57z31 => exact fun _ _ _ h => h
                      case hw57z31 => rfl
                      case hy57z31 => (intro w hSw; (try dsimp only at hSw); go_simp; (try with_reducible rfl))
                      (try simp only [Act.put, List.setIfInBounds_toArray, List.set_cons_zero, List.set_cons_succ])
                      refine wpAnyH_take (i := 58) (oi := ?oi58z31) (v := ?v58z31) ?hi58z31 (by as_aux_lemma => kernel_rfl) (by as_aux_lemma => kernel_rfl) (by as_aux_lemma => kernel_rfl) ?hQ58z31 (Or.inl ⟨?hw58z31, ?hy58z31⟩) (by assumption) ?r58z31
                      case hi58z31 => (simp only [List.getElem?_toArray, List.getElem?_cons_succ, List.getElem?_cons_zero]; rfl)
                      case hQ58z31 => exact fun _ _ _ h => h
                      case hw58z31 => rfl
                      case hy58z31 => (intro w hSw; (try dsimp only at hSw); go_simp; (try with_reducible rfl))
                      (try simp only [Act.put, List.setIfInBounds_toArray, List.set_cons_zero, List.set_cons_succ])
                      refine wpAnyH_take (i := 59) (oi := ?oi59z31) (v := ?v59z31) ?hi59z31 (by as_aux_lemma => kernel_rfl) (by as_aux_lemma => kernel_rfl) (by as_aux_lemma => kernel_rfl) ?hQ59z31 (Or.inl ⟨?hw59z31, ?hy59z31⟩) (by assumption) ?r59z31
                      case hi59z31 => (simp only [List.getElem?_toArray, List.getElem?_cons_succ, List.getElem?_cons_zero]; rfl)
                      case hQ59z31 => exact fun _ _ _ h => h
                      case hw59z31 => rfl
                      case hy59z31 => (intro w hSw; (try dsimp only at hSw); go_simp; (try with_reducible rfl))
                      (try simp only [Act.put, List.setIfInBounds_toArray, List.set_cons_zero, List.set_cons_succ])
                      refine wpAnyH_take (i := 60) (oi := ?oi60z31) (v := ?v60z31) ?hi60z31 (by as_aux_lemma => kernel_rfl) (by as_aux_lemma => kernel_rfl) (by as_aux_lemma => kernel_rfl) ?hQ60z31 (Or.inl ⟨?hw60z31, ?hy60z31⟩) (by assumption) ?r60z31
                      case hi60z31 => (simp only [List.getElem?_toArray, List.getElem?_cons_succ, List.getElem?_cons_zero]; rfl)
                      case hQ60z31 => exact fun _ _ _ h => h
                      case hw60z31 => rfl
                      case hy60z31 => (intro w hSw; (try dsimp only at hSw); go_simp; (try with_reducible rfl))
                      (try simp only [Act.put, List.setIfInBounds_toArray, List.set_cons_zero, List.set_cons_succ])
                      refine wpAnyH_take (i := 61) (oi := ?oi61z31) (v := ?v61z31) ?hi61z31 (by as_aux_lemma => kernel_rfl) (by as_aux_lemma => kernel_rfl) (by as_aux_lemma => kernel_rfl) ?hQ61z31 (Or.inl ⟨?hw61z31, ?hy61z31⟩) (by assumption) ?r61z31
                      case hi61z31 => (simp only [List.getElem?_toArray, List.getElem?_cons_succ, List.getElem?_cons_zero]; rfl)
                      case hQ61z31 => exact fun _ _ _ h => h
                      case hw61z31 => rfl
                      case hy61z31 => (intro w hSw; (try dsimp only at hSw); go_simp; (try with_reducible rfl))
                      (try simp only [Act.put, List.setIfInBounds_toArray, List.set_cons_zero, List.set_cons_succ])
                      refine wpAnyH_take (i := 62) (oi := ?oi62z31) (v := ?v62z31) ?hi62z31 (by as_aux_lemma => kernel_rfl) (by as_aux_lemma => kernel_rfl) (by as_aux_lemma => kernel_rfl) ?hQ62z31 (Or.inl ⟨?hw62z31, ?hy62z31⟩) (by assumption) ?r62z31
                      case hi62z31 => (simp only [List.getElem?_toArray, List.getElem?_cons_succ, List.getElem?_cons_zero]; rfl)
                      case hQ62z31 => exact fun _ _ _ h => h
                      case hw62z31 => rfl
                      case hy62z31 => (intro w hSw; (try dsimp only at hSw); go_simp; (try with_reducible rfl))
                      (try simp only [Act.put, List.setIfInBounds_toArray, List.set_cons_zero, List.set_cons_succ])
                      refine wpAnyH_take (i := 63) (oi := ?oi63z31) (v := ?v63z31) ?hi63z31 (by as_aux_lemma => kernel_rfl) (by as_aux_lemma => kernel_rfl) (by as_aux_lemma => kernel_rfl) ?hQ63z31 (Or.inl ⟨?hw63z31, ?hy63z31⟩) (by assumption) ?r63z31
                      case hi63z31 => (simp only [List.getElem?_toArray, List.getElem?_cons_succ, List.getElem?_cons_zero]; rfl)
                      case hQ63z31 => exact fun _ _ _ h => h
                      case hw63z31 => rfl
                      case hy63z31 => (intro w hSw; (try dsimp only at hSw); go_simp; (try with_reducible rfl))
                      (try simp only [Act.put, List.setIfInBounds_toArray, List.set_cons_zero, List.set_cons_succ])
                      as_aux_lemma =>
                      refine wpAnyH_take (i := 64) (oi := ?oi64z31) (v := ?v64z31) ?hi64z31 (by as_aux_lemma => kernel_rfl) (by as_aux_lemma => kernel_rfl) (by as_aux_lemma => kernel_rfl) ?hQ64z31 (Or.inl ⟨?hw64z31, ?hy64z31⟩) (by assumption) ?r64z31
                      case hi64z31 => (simp only [List.getElem?_toArray, List.getElem?_cons_succ, List.getElem?_cons_zero]; rfl)
                      case hQ64z31 => exact fun _ _ _ h => h
                      case hw64z31 => rfl
                      case hy64z31 => (intro w hSw; (try dsimp only at hSw); go_simp; (try with_reducible rfl))
                      (try simp only [Act.put, List.setIfInBounds_toArray, List.set_cons_zero, List.set_cons_succ])
                      refine wpAnyH_done (by as_aux_lemma => kernel_rfl) ?_ _
                      generalize wc.drew = w4 at hHeld ⊢
                      obtain ⟨Q0, Q1, Q2, Q3, Q5⟩ := hHeld
                      clear ra0 ra1 ra2 ra3 ra4 ra5 ra6 ra7 rn0 rn1 rn2 rn3 rm0 rm1 rm2 rm3 rs0 rs1 rs2 rs3 heq85
                      have cn0 := cell_heap (j := 0) Q2 rfl
                      have cn1 := cell_heap (j := 1) Q2 rfl
                      have cn2 := cell_heap (j := 2) Q2 rfl
                      have cn3 := cell_heap (j := 3) Q2 rfl
                      have cm0 := cell_heap (j := 0) Q5 rfl
                      have cm1 := cell_heap (j := 1) Q5 rfl
                      have cm2 := cell_heap (j := 2) Q5 rfl
                      have cm3 := cell_heap (j := 3) Q5 rfl
                      have fn0 := frozen_pa Q2 0
                      have fn1 := frozen_pa Q2 1
                      have fn2 := frozen_pa Q2 2
                      have fn3 := frozen_pa Q2 3
                      have cs := cell_heap (j := 3) Q3 rfl
                      have fs := frozen_pa Q3 3
                      have R0 := Lib.hid Q0
                      have R1 := Lib.hid Q1
                      have R2 := Lib.hid Q2
                      have R3 := Lib.hid Q3
                      have R5 := Lib.hid Q5
                      clear Q0 Q1 Q2 Q3 Q5
                      have e1 : ¬ M = N := by have := HM.out; omega
                      have e2 : ¬ N = M := by have := HM.out; omega
                      have e3 : ¬ M = N + 1 := by have := HM.out; omega
                      have e4 : ¬ N + 1 = M := by have := HM.out; omega
                      have hn0 : w.heap.size ≤ N := by have := HN.out; omega
                      have hn1 : w.heap.size ≤ N + 1 := by have := HN.out; omega
                      have hn2 : w.heap.size ≠ N := by have := HN.out; omega
                      have hn3 : w.heap.size ≠ N + 1 := by have := HN.out; omega
                      go_wp2_with fail
                      go_roundg (60 - (k + 1))
                      case measure => have := HK.out.1; omega
                      case rel =>
                        refine ⟨k + 1, tick + dt, a0, a1, true, s1, s2, true, (0), by omega, by go_num, rfl, Lib.hid ⟨by omega, HT2'.out.1, HT2'.out.2⟩, Lib.hid ⟨HS.out.1, HS.out.2.1, fun _ => rfl⟩, ?_, ?_, ?_, ?_⟩
                        · exact Lib.hid (put4_below (below_set R0.out (N + 1) 3 hn1 _) hn0 _ _ _ _)
                        · exact Lib.hid (put4_other (heap_setOther R1.out hn3 3 _) hn2 _ _ _ _)
                        · exact Lib.hid (put4_heap (heap_setOther R2.out (by omega) 3 _) _ _ _ _)
                        · exact Lib.hid (put4_other (heap_setSame R3.out 3 _) (by omega) _ _ _ _)
          · have k2' : ¬ (k : Int) < (n2 : Int) := by omega
            go_wp2_with fail
            refine (alive23 _).mono ?_
            rintro e w2 ⟨rfl, hb2⟩
            go_wp2_with fail
            go_ret
            exact ⟨rfl, below_all BW.out hb2⟩
        · have k1' : ¬ (k : Int) < (n1 : Int) := by omega
          go_wp2_with fail
          refine (alive23 _).mono ?_
          rintro e w2 ⟨rfl, hb2⟩
          go_wp2_with fail
          go_ret
          exact ⟨rfl, below_all BW.out hb2⟩


end Go.Proofs.Ythhkcckikmldcaa
