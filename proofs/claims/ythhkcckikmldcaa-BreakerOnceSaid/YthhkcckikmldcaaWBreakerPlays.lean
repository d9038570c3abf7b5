/-
  The walk of BreakerPlays. (Written by gen_wbp.py, a program of this session's own.)
-/
import Derived.Test.YthhkcckikmldcaaBr8
import Derived.Deep.RegionHeld3
import Derived.Deep.LoopGhost
import Derived.Deep.CutRange
set_option linter.unusedVariables false
set_option linter.unusedSimpArgs false
namespace Go.Proofs.Ythhkcckikmldcaa
open Go.RowKit

theorem drew_below {B : Nat} {a W : World} (h : Below B a W) : Below B a W.drew := below_drewN h 1
theorem drew_heap {W : World} {b : Nat} {o : Obj} (h : W.heap[b]? = some o) : W.drew.heap[b]? = some o := h
theorem drew_cell {W : World} {p : Addr} {v : Value} (h : W.cell? p = some v) : W.drew.cell? p = some v := h
theorem cell_al {W : World} {b o : Nat} {v : Value} (h : W.cell? ⟨b, o, none⟩ = some v) (x : Obj) : (W.alloc x).cell? ⟨b, o, none⟩ = some v := bcell (below_al (Below.refl _ _) _) h
theorem put4_below {w W : World} {M : Nat} (h : Below w.heap.size w W) (hn : w.heap.size ≤ M) (v0 v1 v2 v3 : Value) : Below w.heap.size w ((((W.setCell ⟨M, 0, none⟩ v0).setCell ⟨M, 1, none⟩ v1).setCell ⟨M, 2, none⟩ v2).setCell ⟨M, 3, none⟩ v3) :=
  below_set (below_set (below_set (below_set h M 0 hn v0) M 1 hn v1) M 2 hn v2) M 3 hn v3
theorem put4_other {W : World} {b M : Nat} {o : Obj} (h : W.heap[b]? = some o) (hne : b ≠ M) (v0 v1 v2 v3 : Value) : ((((W.setCell ⟨M, 0, none⟩ v0).setCell ⟨M, 1, none⟩ v1).setCell ⟨M, 2, none⟩ v2).setCell ⟨M, 3, none⟩ v3).heap[b]? = some o :=
  heap_setOther (heap_setOther (heap_setOther (heap_setOther h hne 0 v0) hne 1 v1) hne 2 v2) hne 3 v3
theorem put4_heap {W : World} {M : Nat} {a b c d : Value} {t : TypeId} {fr : Nat × Nat} (h : W.heap[M]? = some (.cells #[a, b, c, d] t fr)) (v0 v1 v2 v3 : Value) : ((((W.setCell ⟨M, 0, none⟩ v0).setCell ⟨M, 1, none⟩ v1).setCell ⟨M, 2, none⟩ v2).setCell ⟨M, 3, none⟩ v3).heap[M]? = some (.cells #[v0, v1, v2, v3] t fr) :=
  heap_setSame (heap_setSame (heap_setSame (heap_setSame h 0 v0) 1 v1) 2 v2) 3 v3
theorem put4_cell {W : World} {b M o : Nat} {v : Value} (h : W.cell? ⟨b, o, none⟩ = some v) (hne : b ≠ M) (v0 v1 v2 v3 : Value) : ((((W.setCell ⟨M, 0, none⟩ v0).setCell ⟨M, 1, none⟩ v1).setCell ⟨M, 2, none⟩ v2).setCell ⟨M, 3, none⟩ v3).cell? ⟨b, o, none⟩ = some v := by
  have hb : ((((W.setCell ⟨M, 0, none⟩ v0).setCell ⟨M, 1, none⟩ v1).setCell ⟨M, 2, none⟩ v2).setCell ⟨M, 3, none⟩ v3).heap[b]? = W.heap[b]? := by
    rw [Go.Deep.blk_setCell_other _ _ _ _ hne, Go.Deep.blk_setCell_other _ _ _ _ hne, Go.Deep.blk_setCell_other _ _ _ _ hne, Go.Deep.blk_setCell_other _ _ _ _ hne]
  unfold World.cell? at *
  rw [hb]
  exact h

set_option maxRecDepth 100000 in
set_option maxHeartbeats 8000000 in
theorem walkBreakerPlays (w : World) (A : Option Addr) (n c : Nat) (B : Option Addr) (m d : Nat) (S R : Nat → Nat → Int) (x : Nat → Int) (h : CfgIn w A n c B m d S R x)
    (A1 : Option Addr) (n1 c1 : Nat) (hnc1 : n1 ≤ c1) (hmx1 : c1 ≤ 9223372036854775807) (G1 : Nat → Nat → Int) (HT1 : Tab w A1 n1 1 G1) (HG1 : ∀ i, i < n1 → ∀ j, j < 1 → i64Ok (G1 i j))
    (A2 : Option Addr) (n2 c2 : Nat) (hnc2 : n2 ≤ c2) (hmx2 : c2 ≤ 9223372036854775807) (G2 : Nat → Nat → Int) (HT2 : Tab w A2 n2 1 G2) (HG2 : ∀ i, i < n2 → ∀ j, j < 1 → i64Ok (G2 i j)) :
    Calls Try.prog 13 #[.agg #[.slice A n c, .slice B m d, .int .i64 (x 0), .int .i64 (x 1), .int .i64 (x 2), .int .i64 (x 3), .int .i64 (x 4), .int .i64 (x 5)], .slice A1 n1 c1, .slice A2 n2 c2] w fun e w' => e = .returned (.bool true) ∧ Below w.heap.size w w' := by
  have BX := below_al (Below.refl w.heap.size w) (.cells #[.slice A n c, .slice B m d, .int .i64 (x 0), .int .i64 (x 1), .int .i64 (x 2), .int .i64 (x 3), .int .i64 (x 4), .int .i64 (x 5)] 35)
  have HR := Lib.hid (right0_any A n c B m d S R x (w.alloc (.cells #[.slice A n c, .slice B m d, .int .i64 (x 0), .int .i64 (x 1), .int .i64 (x 2), .int .i64 (x 3), .int .i64 (x 4), .int .i64 (x 5)] 35)) (h.below BX))
  have K0 := Lib.hid (heap_new w (.cells #[.slice A n c, .slice B m d, .int .i64 (x 0), .int .i64 (x 1), .int .i64 (x 2), .int .i64 (x 3), .int .i64 (x 4), .int .i64 (x 5)] 35))
  have HB := Lib.hid BX
  have ht : rightB n m (chkF n S m R x) = true → TailOk x := fun hr => by
    unfold rightB at hr
    simp only [Bool.and_eq_true, beq_iff_eq] at hr
    exact chk_tail_ok hr.2
  have T1 := Lib.hid HT1
  have T2 := Lib.hid HT2
  have I2 := Lib.hid HG2
  clear h BX HT1 HT2 HG1 HG2
  generalize rightB n m (chkF n S m R x) = r at HR ht
  cases r
  · clear ht
    go_enter Try.func13, Try.ntmps13
    go_wp2_with fail
    refine (HR.out).mono ?_
    rintro e w1 ⟨rfl, hb1⟩
    go_wp2_with fail
    refine (alive23 _).mono ?_
    rintro e w2 ⟨rfl, hb2⟩
    go_wp2_with fail
    go_ret
    exact ⟨rfl, below_all (below_all (below_al (Below.refl _ _) _) hb1) hb2⟩
  · have HTl := Lib.hid (ht rfl)
    clear ht
    by_cases k60 : 60 < n1
    · have k60' : (60 : Int) < (n1 : Int) := by omega
      go_enter Try.func13, Try.ntmps13
      go_wp2_with fail
      refine (HR.out).mono ?_
      rintro e w1 ⟨rfl, hb1⟩
      go_wp2_with fail
      refine (alive23 _).mono ?_
      rintro e w2 ⟨rfl, hb2⟩
      go_wp2_with fail
      go_ret
      exact ⟨rfl, below_all (below_all (below_al (Below.refl _ _) _) hb1) hb2⟩
    · have k60' : ¬ (60 : Int) < (n1 : Int) := by omega
      have HJ := Lib.hid (fun u0 u1 t sh tick at_ hat => both_index A n c B m d x HTl.out u0 u1 t sh tick at_ hat)
      go_enter Try.func13, Try.ntmps13
      go_wp2_with fail
      refine (HR.out).mono ?_
      rintro e w1 ⟨rfl, hb1⟩
      have g0 := block_keep hb1 (lt_of_heap K0.out) K0.out
      have B1 := below_all HB.out hb1
      have z0 := Lib.hid (alloc_old (.cells #[.bool false, .bool false, .int .i64 0, .bool false] 88) (alloc_old (.cells #[.bool false, .bool false, .int .i64 0, .bool false] 87) g0))
      have z1 := Lib.hid (alloc_old (.cells #[.bool false, .bool false, .int .i64 0, .bool false] 88) (heap_new w1 (.cells #[.bool false, .bool false, .int .i64 0, .bool false] 87)))
      have z2 := Lib.hid (heap_new2 w1 (.cells #[.bool false, .bool false, .int .i64 0, .bool false] 87) (.cells #[.bool false, .bool false, .int .i64 0, .bool false] 88))
      have B2 := Lib.hid (below_al (below_al B1 (.cells #[.bool false, .bool false, .int .i64 0, .bool false] 87)) (.cells #[.bool false, .bool false, .int .i64 0, .bool false] 88))
      have HN := Lib.hid (lt_of_heap g0)
      clear hb1 K0 g0 B1 HR HB
      go_wp2_with fail
      generalize (w1.alloc (.cells #[.bool false, .bool false, .int .i64 0, .bool false] 87)).alloc (.cells #[.bool false, .bool false, .int .i64 0, .bool false] 88) = W3 at z0 z1 z2 B2 ⊢
      generalize w1.heap.size = N at z1 z2 HN ⊢
      go_loopg [9, 10] 60 (fun gg s9 s10 wr => ∃ (k : Nat) (tick : Int) (u0 u1 sh : Bool) (t : Int), 60 - k ≤ gg ∧ s10 = .int .i64 k ∧ s9 = .int .i64 tick ∧ Hid (k ≤ n1 ∧ 0 ≤ tick ∧ tick ≤ k * 1125899906842624) ∧ Hid (Below w.heap.size w wr) ∧ Hid (wr.heap[w.heap.size]? = some (.cells #[.slice A n c, .slice B m d, .int .i64 (x 0), .int .i64 (x 1), .int .i64 (x 2), .int .i64 (x 3), .int .i64 (x 4), .int .i64 (x 5)] 35 (0, 0))) ∧ Hid (wr.heap[N]? = some (.cells #[.bool u0, .bool u1, .int .i64 t, .bool sh] 87 (0, 0))) ∧ Hid (wr.heap[N + 1]? = some (.cells #[.bool u0, .bool u1, .int .i64 t, .bool sh] 88 (0, 0))))
      case atStart => exact ⟨0, 0, false, false, false, 0, by omega, rfl, rfl, Lib.hid ⟨Nat.zero_le _, by omega, by omega⟩, B2, z0, z1, z2⟩
      case round =>
        obtain ⟨k, tick, u0, u1, sh, t, hg, rfl, rfl, HK, BW, L0, L1, L2⟩ := hrel
        by_cases k1 : k < n1
        · have k1' : (k : Int) < (n1 : Int) := by omega
          by_cases k2 : k < n2
          · have k2' : (k : Int) < (n2 : Int) := by omega
            obtain ⟨b1, off1, rfl, hc1⟩ := T1.out (by omega)
            obtain ⟨b2, off2, rfl, hc2⟩ := T2.out (by omega)
            have v1 := bcell BW.out (hc1 k k1 0 (by omega))
            have V2 := Lib.hid (bcell BW.out (hc2 k k2 0 (by omega)))
            have hat := I2.out k k2 0 (by omega)
            rw [Nat.mul_one, Nat.add_zero] at v1 V2
            generalize G1 k 0 = dt at v1
            generalize G2 k 0 = at_ at V2 hat
            clear hc1 hc2
            by_cases d1 : dt < 0
            · clear hat
              go_wp2_with fail
              refine (alive23 _).mono ?_
              rintro e w2 ⟨rfl, hb2⟩
              go_wp2_with fail
              go_ret
              exact ⟨rfl, below_all BW.out hb2⟩
            · by_cases d2 : 1125899906842624 < dt
              · clear hat
                go_wp2_with fail
                refine (alive23 _).mono ?_
                rintro e w2 ⟨rfl, hb2⟩
                go_wp2_with fail
                go_ret
                exact ⟨rfl, below_all BW.out hb2⟩
              · have ht1 : 0 ≤ tick := HK.out.2.1
                have ht2 : tick ≤ 67553994410557440 := by have := HK.out.2.2; have := HK.out.1; omega
                obtain ⟨a0, a1, a2, a3, rn, C60, C61, _⟩ := HJ.out u0 u1 t sh (tick + dt) at_ hat
                have HT2' := Lib.hid (show 0 ≤ tick + dt ∧ tick + dt ≤ ((k + 1 : Nat) : Int) * 1125899906842624 by have := HK.out.2.2; omega)
                have H60 := Lib.hid C60
                have H61 := Lib.hid C61
                clear C60 C61 hat
                go_upto_region 12 with fail
                clear v1 d1 d2 ht1 ht2
                go_cut [11, 12] from 26 to 89 (fun s11 s12 wx => ∃ M : Nat, s11 = .pointer (some ⟨M, 0, none⟩) ∧ s12 = .int .i64 rn ∧ Hid (N + 1 < M) ∧ Hid (Below w.heap.size w wx) ∧ Hid (wx.heap[w.heap.size]? = some (.cells #[.slice A n c, .slice B m d, .int .i64 (x 0), .int .i64 (x 1), .int .i64 (x 2), .int .i64 (x 3), .int .i64 (x 4), .int .i64 (x 5)] 35 (0, 0))) ∧ Hid (wx.heap[N]? = some (.cells #[.bool u0, .bool u1, .int .i64 t, .bool sh] 87 (0, 0))) ∧ Hid (wx.heap[N + 1]? = some (.cells #[.bool u0, .bool u1, .int .i64 t, .bool sh] 88 (0, 0))) ∧ Hid (wx.cell? ⟨b2, off2 + k, none⟩ = some (.int .i64 at_)) ∧ Hid (wx.heap[M]? = some (.cells #[.bool a0, .bool a1, .int .i64 a2, .bool a3] 87 (0, 0))))
                case first =>
                  have ra0 : ∀ W : World, W.heap[w.heap.size]? = some (.cells #[.slice A n c, .slice B m d, .int .i64 (x 0), .int .i64 (x 1), .int .i64 (x 2), .int .i64 (x 3), .int .i64 (x 4), .int .i64 (x 5)] 35 (0, 0)) → W.cell? ⟨w.heap.size, 0, none⟩ = some (.slice A n c) := fun W h => cell_heap h rfl
                  have ra1 : ∀ W : World, W.heap[w.heap.size]? = some (.cells #[.slice A n c, .slice B m d, .int .i64 (x 0), .int .i64 (x 1), .int .i64 (x 2), .int .i64 (x 3), .int .i64 (x 4), .int .i64 (x 5)] 35 (0, 0)) → W.cell? ⟨w.heap.size, 1, none⟩ = some (.slice B m d) := fun W h => cell_heap h rfl
                  have ra2 : ∀ W : World, W.heap[w.heap.size]? = some (.cells #[.slice A n c, .slice B m d, .int .i64 (x 0), .int .i64 (x 1), .int .i64 (x 2), .int .i64 (x 3), .int .i64 (x 4), .int .i64 (x 5)] 35 (0, 0)) → W.cell? ⟨w.heap.size, 2, none⟩ = some (.int .i64 (x 0)) := fun W h => cell_heap h rfl
                  have ra3 : ∀ W : World, W.heap[w.heap.size]? = some (.cells #[.slice A n c, .slice B m d, .int .i64 (x 0), .int .i64 (x 1), .int .i64 (x 2), .int .i64 (x 3), .int .i64 (x 4), .int .i64 (x 5)] 35 (0, 0)) → W.cell? ⟨w.heap.size, 3, none⟩ = some (.int .i64 (x 1)) := fun W h => cell_heap h rfl
                  have ra4 : ∀ W : World, W.heap[w.heap.size]? = some (.cells #[.slice A n c, .slice B m d, .int .i64 (x 0), .int .i64 (x 1), .int .i64 (x 2), .int .i64 (x 3), .int .i64 (x 4), .int .i64 (x 5)] 35 (0, 0)) → W.cell? ⟨w.heap.size, 4, none⟩ = some (.int .i64 (x 2)) := fun W h => cell_heap h rfl
                  have ra5 : ∀ W : World, W.heap[w.heap.size]? = some (.cells #[.slice A n c, .slice B m d, .int .i64 (x 0), .int .i64 (x 1), .int .i64 (x 2), .int .i64 (x 3), .int .i64 (x 4), .int .i64 (x 5)] 35 (0, 0)) → W.cell? ⟨w.heap.size, 5, none⟩ = some (.int .i64 (x 3)) := fun W h => cell_heap h rfl
                  have ra6 : ∀ W : World, W.heap[w.heap.size]? = some (.cells #[.slice A n c, .slice B m d, .int .i64 (x 0), .int .i64 (x 1), .int .i64 (x 2), .int .i64 (x 3), .int .i64 (x 4), .int .i64 (x 5)] 35 (0, 0)) → W.cell? ⟨w.heap.size, 6, none⟩ = some (.int .i64 (x 4)) := fun W h => cell_heap h rfl
                  have ra7 : ∀ W : World, W.heap[w.heap.size]? = some (.cells #[.slice A n c, .slice B m d, .int .i64 (x 0), .int .i64 (x 1), .int .i64 (x 2), .int .i64 (x 3), .int .i64 (x 4), .int .i64 (x 5)] 35 (0, 0)) → W.cell? ⟨w.heap.size, 7, none⟩ = some (.int .i64 (x 5)) := fun W h => cell_heap h rfl
                  have rb0 : ∀ W : World, W.heap[N]? = some (.cells #[.bool u0, .bool u1, .int .i64 t, .bool sh] 87 (0, 0)) → W.cell? ⟨N, 0, none⟩ = some (.bool u0) := fun W h => cell_heap h rfl
                  have rb1 : ∀ W : World, W.heap[N]? = some (.cells #[.bool u0, .bool u1, .int .i64 t, .bool sh] 87 (0, 0)) → W.cell? ⟨N, 1, none⟩ = some (.bool u1) := fun W h => cell_heap h rfl
                  have rb2 : ∀ W : World, W.heap[N]? = some (.cells #[.bool u0, .bool u1, .int .i64 t, .bool sh] 87 (0, 0)) → W.cell? ⟨N, 2, none⟩ = some (.int .i64 t) := fun W h => cell_heap h rfl
                  have rb3 : ∀ W : World, W.heap[N]? = some (.cells #[.bool u0, .bool u1, .int .i64 t, .bool sh] 87 (0, 0)) → W.cell? ⟨N, 3, none⟩ = some (.bool sh) := fun W h => cell_heap h rfl
                  have q0 := BW.out
                  have q1 := L0.out
                  have q2 := L1.out
                  have q3 := L2.out
                  have q4 := V2.out
                  have hM0 := lt_of_heap L0.out
                  have hM1 := lt_of_heap L1.out
                  have hM2 := lt_of_heap L2.out
                  have hM3 := World.block_lt_of_cell? wr _ V2.out
                  have hzz := drew_heap (heap_new wr (.cells #[.bool false, .bool false, .int .i64 0, .bool false] 87))
                  go_region_held3 (fun w' => Below w.heap.size w w' ∧ w'.heap[w.heap.size]? = some (.cells #[.slice A n c, .slice B m d, .int .i64 (x 0), .int .i64 (x 1), .int .i64 (x 2), .int .i64 (x 3), .int .i64 (x 4), .int .i64 (x 5)] 35 (0, 0)) ∧ w'.heap[N]? = some (.cells #[.bool u0, .bool u1, .int .i64 t, .bool sh] 87 (0, 0)) ∧ w'.heap[N + 1]? = some (.cells #[.bool u0, .bool u1, .int .i64 t, .bool sh] 88 (0, 0)) ∧ w'.cell? ⟨b2, off2 + k, none⟩ = some (.int .i64 at_))
                    (first | (go_split_ands; refine ⟨?_, ?_, ?_, ?_, ?_⟩ <;> (first | (with_reducible assumption) | (with_reducible exact put4_below Q0.out (Nat.le_of_lt hM0) _ _ _ _) | (with_reducible exact put4_other Q1.out (Nat.ne_of_lt hM0) _ _ _ _) | (with_reducible exact put4_other Q2.out (Nat.ne_of_lt hM1) _ _ _ _) | (with_reducible exact put4_other Q3.out (Nat.ne_of_lt hM2) _ _ _ _) | (with_reducible exact put4_cell Q4.out (Nat.ne_of_lt hM3) _ _ _ _) | (with_reducible exact below_al Q0.out _) | (with_reducible exact alloc_old _ Q1.out) | (with_reducible exact alloc_old _ Q2.out) | (with_reducible exact alloc_old _ Q3.out) | (with_reducible exact cell_al Q4.out _) | (with_reducible exact Q0.out) | (with_reducible exact Q1.out) | (with_reducible exact Q2.out) | (with_reducible exact Q3.out) | (with_reducible exact Q4.out) | (with_reducible exact below_al (by assumption) _) | (with_reducible exact alloc_old _ (by assumption)) | (with_reducible exact cell_al (by assumption) _) | (with_reducible exact drew_below q0) | (with_reducible exact drew_heap q1) | (with_reducible exact drew_heap q2) | (with_reducible exact drew_heap q3) | (with_reducible exact drew_cell q4) | (with_reducible exact drew_below (below_al q0 _)) | (with_reducible exact drew_heap (alloc_old _ q1)) | (with_reducible exact drew_heap (alloc_old _ q2)) | (with_reducible exact drew_heap (alloc_old _ q3)) | (with_reducible exact drew_cell (cell_al q4 _)))))
                    (first | (go_at_call 60; go_split_ands; refine (H60.out _).mono ?_; rintro e w4 ⟨rfl, hqn⟩; have Q0 : Hid (Below w.heap.size w w4) := Lib.hid (below_all (by assumption) hqn); have Q1 : Hid (w4.heap[w.heap.size]? = some (.cells #[.slice A n c, .slice B m d, .int .i64 (x 0), .int .i64 (x 1), .int .i64 (x 2), .int .i64 (x 3), .int .i64 (x 4), .int .i64 (x 5)] 35 (0, 0))) := Lib.hid (block_keep hqn (lt_of_heap (by assumption)) (by assumption)); have Q2 : Hid (w4.heap[N]? = some (.cells #[.bool u0, .bool u1, .int .i64 t, .bool sh] 87 (0, 0))) := Lib.hid (block_keep hqn (lt_of_heap (by assumption)) (by assumption)); have Q3 : Hid (w4.heap[N + 1]? = some (.cells #[.bool u0, .bool u1, .int .i64 t, .bool sh] 88 (0, 0))) := Lib.hid (block_keep hqn (lt_of_heap (by assumption)) (by assumption)); have Q4 : Hid (w4.cell? ⟨b2, off2 + k, none⟩ = some (.int .i64 at_)) := Lib.hid (bcell hqn (by assumption)); (try (have zz := (by with_reducible exact block_keep hqn (lt_of_heap hzz) hzz : w4.heap[wr.heap.size]? = some (.cells #[.bool false, .bool false, .int .i64 0, .bool false] 87 (0, 0))); have Z4 := Lib.hid zz; have y0 := cell_heap (j := 0) zz rfl; have y1 := cell_heap (j := 1) zz rfl; have y2 := cell_heap (j := 2) zz rfl; have y3 := cell_heap (j := 3) zz rfl; have f0 := frozen_pa zz 0; have f1 := frozen_pa zz 1; have f2 := frozen_pa zz 2; have f3 := frozen_pa zz 3))))
                  all_goals go_wp2_with fail
                  all_goals go_meet
                  all_goals first
                    | exact ⟨_, rfl, rfl, Lib.hid (lt_of_heap Q3.out), Lib.hid (below_al Q0.out _), Lib.hid (alloc_old _ Q1.out), Lib.hid (alloc_old _ Q2.out), Lib.hid (alloc_old _ Q3.out), Lib.hid (cell_al Q4.out _), Lib.hid (heap_new _ _)⟩
                    | exact ⟨_, rfl, rfl, Lib.hid hM2, Lib.hid (put4_below Q0.out (Nat.le_of_lt hM0) _ _ _ _), Lib.hid (put4_other Q1.out (Nat.ne_of_lt hM0) _ _ _ _), Lib.hid (put4_other Q2.out (Nat.ne_of_lt hM1) _ _ _ _), Lib.hid (put4_other Q3.out (Nat.ne_of_lt hM2) _ _ _ _), Lib.hid (put4_cell Q4.out (Nat.ne_of_lt hM3) _ _ _ _), Lib.hid (put4_heap Z4.out _ _ _ _)⟩
                case rest =>
                  obtain ⟨M, rfl, rfl, HM, BX, X0, X1, X2, X4, X3⟩ := hcut
                  clear BW L0 L1 L2 V2 H60
                  go_upto_region 13 with fail
                  go_cut [13, 14] from 26 to 89 (fun s13 s14 wx => ∃ M2 : Nat, s13 = .pointer (some ⟨M2, 0, none⟩) ∧ s14 = .int .i64 rn ∧ Hid (M < M2) ∧ Hid (Below w.heap.size w wx) ∧ Hid (wx.heap[w.heap.size]? = some (.cells #[.slice A n c, .slice B m d, .int .i64 (x 0), .int .i64 (x 1), .int .i64 (x 2), .int .i64 (x 3), .int .i64 (x 4), .int .i64 (x 5)] 35 (0, 0))) ∧ Hid (wx.heap[N]? = some (.cells #[.bool u0, .bool u1, .int .i64 t, .bool sh] 87 (0, 0))) ∧ Hid (wx.heap[N + 1]? = some (.cells #[.bool u0, .bool u1, .int .i64 t, .bool sh] 88 (0, 0))) ∧ Hid (wx.heap[M]? = some (.cells #[.bool a0, .bool a1, .int .i64 a2, .bool a3] 87 (0, 0))) ∧ Hid (wx.heap[M2]? = some (.cells #[.bool a0, .bool a1, .int .i64 a2, .bool a3] 88 (0, 0))))
                  case first =>
                    have ra0 : ∀ W : World, W.heap[w.heap.size]? = some (.cells #[.slice A n c, .slice B m d, .int .i64 (x 0), .int .i64 (x 1), .int .i64 (x 2), .int .i64 (x 3), .int .i64 (x 4), .int .i64 (x 5)] 35 (0, 0)) → W.cell? ⟨w.heap.size, 0, none⟩ = some (.slice A n c) := fun W h => cell_heap h rfl
                    have ra1 : ∀ W : World, W.heap[w.heap.size]? = some (.cells #[.slice A n c, .slice B m d, .int .i64 (x 0), .int .i64 (x 1), .int .i64 (x 2), .int .i64 (x 3), .int .i64 (x 4), .int .i64 (x 5)] 35 (0, 0)) → W.cell? ⟨w.heap.size, 1, none⟩ = some (.slice B m d) := fun W h => cell_heap h rfl
                    have ra2 : ∀ W : World, W.heap[w.heap.size]? = some (.cells #[.slice A n c, .slice B m d, .int .i64 (x 0), .int .i64 (x 1), .int .i64 (x 2), .int .i64 (x 3), .int .i64 (x 4), .int .i64 (x 5)] 35 (0, 0)) → W.cell? ⟨w.heap.size, 2, none⟩ = some (.int .i64 (x 0)) := fun W h => cell_heap h rfl
                    have ra3 : ∀ W : World, W.heap[w.heap.size]? = some (.cells #[.slice A n c, .slice B m d, .int .i64 (x 0), .int .i64 (x 1), .int .i64 (x 2), .int .i64 (x 3), .int .i64 (x 4), .int .i64 (x 5)] 35 (0, 0)) → W.cell? ⟨w.heap.size, 3, none⟩ = some (.int .i64 (x 1)) := fun W h => cell_heap h rfl
                    have ra4 : ∀ W : World, W.heap[w.heap.size]? = some (.cells #[.slice A n c, .slice B m d, .int .i64 (x 0), .int .i64 (x 1), .int .i64 (x 2), .int .i64 (x 3), .int .i64 (x 4), .int .i64 (x 5)] 35 (0, 0)) → W.cell? ⟨w.heap.size, 4, none⟩ = some (.int .i64 (x 2)) := fun W h => cell_heap h rfl
                    have ra5 : ∀ W : World, W.heap[w.heap.size]? = some (.cells #[.slice A n c, .slice B m d, .int .i64 (x 0), .int .i64 (x 1), .int .i64 (x 2), .int .i64 (x 3), .int .i64 (x 4), .int .i64 (x 5)] 35 (0, 0)) → W.cell? ⟨w.heap.size, 5, none⟩ = some (.int .i64 (x 3)) := fun W h => cell_heap h rfl
                    have ra6 : ∀ W : World, W.heap[w.heap.size]? = some (.cells #[.slice A n c, .slice B m d, .int .i64 (x 0), .int .i64 (x 1), .int .i64 (x 2), .int .i64 (x 3), .int .i64 (x 4), .int .i64 (x 5)] 35 (0, 0)) → W.cell? ⟨w.heap.size, 6, none⟩ = some (.int .i64 (x 4)) := fun W h => cell_heap h rfl
                    have ra7 : ∀ W : World, W.heap[w.heap.size]? = some (.cells #[.slice A n c, .slice B m d, .int .i64 (x 0), .int .i64 (x 1), .int .i64 (x 2), .int .i64 (x 3), .int .i64 (x 4), .int .i64 (x 5)] 35 (0, 0)) → W.cell? ⟨w.heap.size, 7, none⟩ = some (.int .i64 (x 5)) := fun W h => cell_heap h rfl
                    have rc0 : ∀ W : World, W.heap[N + 1]? = some (.cells #[.bool u0, .bool u1, .int .i64 t, .bool sh] 88 (0, 0)) → W.cell? ⟨N + 1, 0, none⟩ = some (.bool u0) := fun W h => cell_heap h rfl
                    have rc1 : ∀ W : World, W.heap[N + 1]? = some (.cells #[.bool u0, .bool u1, .int .i64 t, .bool sh] 88 (0, 0)) → W.cell? ⟨N + 1, 1, none⟩ = some (.bool u1) := fun W h => cell_heap h rfl
                    have rc2 : ∀ W : World, W.heap[N + 1]? = some (.cells #[.bool u0, .bool u1, .int .i64 t, .bool sh] 88 (0, 0)) → W.cell? ⟨N + 1, 2, none⟩ = some (.int .i64 t) := fun W h => cell_heap h rfl
                    have rc3 : ∀ W : World, W.heap[N + 1]? = some (.cells #[.bool u0, .bool u1, .int .i64 t, .bool sh] 88 (0, 0)) → W.cell? ⟨N + 1, 3, none⟩ = some (.bool sh) := fun W h => cell_heap h rfl
                    have q0 := BX.out
                    have q1 := X0.out
                    have q2 := X1.out
                    have q3 := X2.out
                    have q4 := X4.out
                    have q5 := X3.out
                    have hM0 := lt_of_heap X0.out
                    have hM1 := lt_of_heap X1.out
                    have hM2 := lt_of_heap X2.out
                    have hM3 := World.block_lt_of_cell? wc _ X4.out
                    have hM4 := lt_of_heap X3.out
                    have hzz := drew_heap (heap_new wc (.cells #[.bool false, .bool false, .int .i64 0, .bool false] 88))
                    go_region_held3 (fun w' => Below w.heap.size w w' ∧ w'.heap[w.heap.size]? = some (.cells #[.slice A n c, .slice B m d, .int .i64 (x 0), .int .i64 (x 1), .int .i64 (x 2), .int .i64 (x 3), .int .i64 (x 4), .int .i64 (x 5)] 35 (0, 0)) ∧ w'.heap[N]? = some (.cells #[.bool u0, .bool u1, .int .i64 t, .bool sh] 87 (0, 0)) ∧ w'.heap[N + 1]? = some (.cells #[.bool u0, .bool u1, .int .i64 t, .bool sh] 88 (0, 0)) ∧ w'.cell? ⟨b2, off2 + k, none⟩ = some (.int .i64 at_) ∧ w'.heap[M]? = some (.cells #[.bool a0, .bool a1, .int .i64 a2, .bool a3] 87 (0, 0)))
                      (first | (go_split_ands; refine ⟨?_, ?_, ?_, ?_, ?_, ?_⟩ <;> (first | (with_reducible assumption) | (with_reducible exact put4_below Q0.out (Nat.le_of_lt hM0) _ _ _ _) | (with_reducible exact put4_other Q1.out (Nat.ne_of_lt hM0) _ _ _ _) | (with_reducible exact put4_other Q2.out (Nat.ne_of_lt hM1) _ _ _ _) | (with_reducible exact put4_other Q3.out (Nat.ne_of_lt hM2) _ _ _ _) | (with_reducible exact put4_other Q5.out (Nat.ne_of_lt hM4) _ _ _ _) | (with_reducible exact put4_cell Q4.out (Nat.ne_of_lt hM3) _ _ _ _) | (with_reducible exact below_al Q0.out _) | (with_reducible exact alloc_old _ Q1.out) | (with_reducible exact alloc_old _ Q2.out) | (with_reducible exact alloc_old _ Q3.out) | (with_reducible exact alloc_old _ Q5.out) | (with_reducible exact cell_al Q4.out _) | (with_reducible exact Q0.out) | (with_reducible exact Q1.out) | (with_reducible exact Q2.out) | (with_reducible exact Q3.out) | (with_reducible exact Q5.out) | (with_reducible exact Q4.out) | (with_reducible exact below_al (by assumption) _) | (with_reducible exact alloc_old _ (by assumption)) | (with_reducible exact cell_al (by assumption) _) | (with_reducible exact drew_below q0) | (with_reducible exact drew_heap q1) | (with_reducible exact drew_heap q2) | (with_reducible exact drew_heap q3) | (with_reducible exact drew_heap q5) | (with_reducible exact drew_cell q4) | (with_reducible exact drew_below (below_al q0 _)) | (with_reducible exact drew_heap (alloc_old _ q1)) | (with_reducible exact drew_heap (alloc_old _ q2)) | (with_reducible exact drew_heap (alloc_old _ q3)) | (with_reducible exact drew_heap (alloc_old _ q5)) | (with_reducible exact drew_cell (cell_al q4 _)))))
                      (first | (go_at_call 61; go_split_ands; refine (H61.out _).mono ?_; rintro e w4 ⟨rfl, hqn⟩; have Q0 : Hid (Below w.heap.size w w4) := Lib.hid (below_all (by assumption) hqn); have Q1 : Hid (w4.heap[w.heap.size]? = some (.cells #[.slice A n c, .slice B m d, .int .i64 (x 0), .int .i64 (x 1), .int .i64 (x 2), .int .i64 (x 3), .int .i64 (x 4), .int .i64 (x 5)] 35 (0, 0))) := Lib.hid (block_keep hqn (lt_of_heap (by assumption)) (by assumption)); have Q2 : Hid (w4.heap[N]? = some (.cells #[.bool u0, .bool u1, .int .i64 t, .bool sh] 87 (0, 0))) := Lib.hid (block_keep hqn (lt_of_heap (by assumption)) (by assumption)); have Q3 : Hid (w4.heap[N + 1]? = some (.cells #[.bool u0, .bool u1, .int .i64 t, .bool sh] 88 (0, 0))) := Lib.hid (block_keep hqn (lt_of_heap (by assumption)) (by assumption)); have Q4 : Hid (w4.cell? ⟨b2, off2 + k, none⟩ = some (.int .i64 at_)) := Lib.hid (bcell hqn (by assumption)); have Q5 : Hid (w4.heap[M]? = some (.cells #[.bool a0, .bool a1, .int .i64 a2, .bool a3] 87 (0, 0))) := Lib.hid (block_keep hqn (lt_of_heap (by assumption)) (by assumption)); (try (have zz := (by with_reducible exact block_keep hqn (lt_of_heap hzz) hzz : w4.heap[wc.heap.size]? = some (.cells #[.bool false, .bool false, .int .i64 0, .bool false] 88 (0, 0))); have Z4 := Lib.hid zz; have y0 := cell_heap (j := 0) zz rfl; have y1 := cell_heap (j := 1) zz rfl; have y2 := cell_heap (j := 2) zz rfl; have y3 := cell_heap (j := 3) zz rfl; have f0 := frozen_pa zz 0; have f1 := frozen_pa zz 1; have f2 := frozen_pa zz 2; have f3 := frozen_pa zz 3))))
                    all_goals go_wp2_with fail
                    all_goals go_meet
                    all_goals first
                      | exact ⟨_, rfl, rfl, Lib.hid (lt_of_heap Q5.out), Lib.hid (below_al Q0.out _), Lib.hid (alloc_old _ Q1.out), Lib.hid (alloc_old _ Q2.out), Lib.hid (alloc_old _ Q3.out), Lib.hid (alloc_old _ Q5.out), Lib.hid (heap_new _ _)⟩
                      | exact ⟨_, rfl, rfl, Lib.hid hM4, Lib.hid (put4_below Q0.out (Nat.le_of_lt hM0) _ _ _ _), Lib.hid (put4_other Q1.out (Nat.ne_of_lt hM0) _ _ _ _), Lib.hid (put4_other Q2.out (Nat.ne_of_lt hM1) _ _ _ _), Lib.hid (put4_other Q3.out (Nat.ne_of_lt hM2) _ _ _ _), Lib.hid (put4_other Q5.out (Nat.ne_of_lt hM4) _ _ _ _), Lib.hid (put4_heap Z4.out _ _ _ _)⟩
                  case rest =>
                    obtain ⟨M2, rfl, rfl, HM2, BY, Y0, Y1, Y2, Y3, Y5⟩ := hcut
                    clear BX X0 X1 X2 X3 X4 H61
                    have q0 := BY.out
                    have q1 := Y0.out
                    have q2 := Y1.out
                    have q3 := Y2.out
                    have q5 := Y3.out
                    have q6 := Y5.out
                    have heq85 : ∀ W : World, (Op.equalIn 9999 85 (.agg #[.bool a0, .bool a1]) (.agg #[.bool a0, .bool a1])).run Try.prog W = .ok true W := fun _ => by cases a0 <;> cases a1 <;> kernel_rfl
                    go_wp2_with fail
                    have rd0 : ∀ W : World, W.heap[M]? = some (.cells #[.bool a0, .bool a1, .int .i64 a2, .bool a3] 87 (0, 0)) → W.cell? ⟨M, 0, none⟩ = some (.bool a0) := fun W h => cell_heap h rfl
                    have rd1 : ∀ W : World, W.heap[M]? = some (.cells #[.bool a0, .bool a1, .int .i64 a2, .bool a3] 87 (0, 0)) → W.cell? ⟨M, 1, none⟩ = some (.bool a1) := fun W h => cell_heap h rfl
                    have rd2 : ∀ W : World, W.heap[M]? = some (.cells #[.bool a0, .bool a1, .int .i64 a2, .bool a3] 87 (0, 0)) → W.cell? ⟨M, 2, none⟩ = some (.int .i64 a2) := fun W h => cell_heap h rfl
                    have rd3 : ∀ W : World, W.heap[M]? = some (.cells #[.bool a0, .bool a1, .int .i64 a2, .bool a3] 87 (0, 0)) → W.cell? ⟨M, 3, none⟩ = some (.bool a3) := fun W h => cell_heap h rfl
                    have re0 : ∀ W : World, W.heap[M2]? = some (.cells #[.bool a0, .bool a1, .int .i64 a2, .bool a3] 88 (0, 0)) → W.cell? ⟨M2, 0, none⟩ = some (.bool a0) := fun W h => cell_heap h rfl
                    have re1 : ∀ W : World, W.heap[M2]? = some (.cells #[.bool a0, .bool a1, .int .i64 a2, .bool a3] 88 (0, 0)) → W.cell? ⟨M2, 1, none⟩ = some (.bool a1) := fun W h => cell_heap h rfl
                    have re2 : ∀ W : World, W.heap[M2]? = some (.cells #[.bool a0, .bool a1, .int .i64 a2, .bool a3] 88 (0, 0)) → W.cell? ⟨M2, 2, none⟩ = some (.int .i64 a2) := fun W h => cell_heap h rfl
                    have re3 : ∀ W : World, W.heap[M2]? = some (.cells #[.bool a0, .bool a1, .int .i64 a2, .bool a3] 88 (0, 0)) → W.cell? ⟨M2, 3, none⟩ = some (.bool a3) := fun W h => cell_heap h rfl
                    go_region_held3 (fun w' => Below w.heap.size w w' ∧ w'.heap[w.heap.size]? = some (.cells #[.slice A n c, .slice B m d, .int .i64 (x 0), .int .i64 (x 1), .int .i64 (x 2), .int .i64 (x 3), .int .i64 (x 4), .int .i64 (x 5)] 35 (0, 0)) ∧ w'.heap[N]? = some (.cells #[.bool u0, .bool u1, .int .i64 t, .bool sh] 87 (0, 0)) ∧ w'.heap[N + 1]? = some (.cells #[.bool u0, .bool u1, .int .i64 t, .bool sh] 88 (0, 0)) ∧ w'.heap[M]? = some (.cells #[.bool a0, .bool a1, .int .i64 a2, .bool a3] 87 (0, 0)) ∧ w'.heap[M2]? = some (.cells #[.bool a0, .bool a1, .int .i64 a2, .bool a3] 88 (0, 0)))
                      (first | (go_split_ands; refine ⟨?_, ?_, ?_, ?_, ?_, ?_⟩ <;> (first | (with_reducible assumption) | (with_reducible exact Q0.out) | (with_reducible exact Q1.out) | (with_reducible exact Q2.out) | (with_reducible exact Q3.out) | (with_reducible exact Q5.out) | (with_reducible exact Q6.out) | (with_reducible exact drew_below q0) | (with_reducible exact drew_heap q1) | (with_reducible exact drew_heap q2) | (with_reducible exact drew_heap q3) | (with_reducible exact drew_heap q5) | (with_reducible exact drew_heap q6))))
                      (first | (go_at_call 62; go_split_ands; refine (own23_any _ _ _ _ _).mono ?_; rintro e w4 ⟨rfl, hqn⟩; have Q0 : Hid (Below w.heap.size w w4) := Lib.hid (below_all (by assumption) hqn); have Q1 : Hid (w4.heap[w.heap.size]? = some (.cells #[.slice A n c, .slice B m d, .int .i64 (x 0), .int .i64 (x 1), .int .i64 (x 2), .int .i64 (x 3), .int .i64 (x 4), .int .i64 (x 5)] 35 (0, 0))) := Lib.hid (block_keep hqn (lt_of_heap (by assumption)) (by assumption)); have Q2 : Hid (w4.heap[N]? = some (.cells #[.bool u0, .bool u1, .int .i64 t, .bool sh] 87 (0, 0))) := Lib.hid (block_keep hqn (lt_of_heap (by assumption)) (by assumption)); have Q3 : Hid (w4.heap[N + 1]? = some (.cells #[.bool u0, .bool u1, .int .i64 t, .bool sh] 88 (0, 0))) := Lib.hid (block_keep hqn (lt_of_heap (by assumption)) (by assumption)); have Q5 : Hid (w4.heap[M]? = some (.cells #[.bool a0, .bool a1, .int .i64 a2, .bool a3] 87 (0, 0))) := Lib.hid (block_keep hqn (lt_of_heap (by assumption)) (by assumption)); have Q6 : Hid (w4.heap[M2]? = some (.cells #[.bool a0, .bool a1, .int .i64 a2, .bool a3] 88 (0, 0))) := Lib.hid (block_keep hqn (lt_of_heap (by assumption)) (by assumption))))
                    have cn0 := cell_heap (j := 0) Q2.out rfl
                    have fn0 := frozen_pa Q2.out 0
                    have cp0 := cell_heap (j := 0) Q3.out rfl
                    have fp0 := frozen_pa Q3.out 0
                    have cq0 := cell_heap (j := 0) Q6.out rfl
                    have cn1 := cell_heap (j := 1) Q2.out rfl
                    have fn1 := frozen_pa Q2.out 1
                    have cp1 := cell_heap (j := 1) Q3.out rfl
                    have fp1 := frozen_pa Q3.out 1
                    have cq1 := cell_heap (j := 1) Q6.out rfl
                    have cn2 := cell_heap (j := 2) Q2.out rfl
                    have fn2 := frozen_pa Q2.out 2
                    have cp2 := cell_heap (j := 2) Q3.out rfl
                    have fp2 := frozen_pa Q3.out 2
                    have cq2 := cell_heap (j := 2) Q6.out rfl
                    have cn3 := cell_heap (j := 3) Q2.out rfl
                    have fn3 := frozen_pa Q2.out 3
                    have cp3 := cell_heap (j := 3) Q3.out rfl
                    have fp3 := frozen_pa Q3.out 3
                    have cq3 := cell_heap (j := 3) Q6.out rfl
                    have e1 : ¬ M2 = N := by have := HM.out; have := HM2.out; omega
                    have e2 : ¬ N = M2 := by have := HM.out; have := HM2.out; omega
                    have e3 : ¬ M2 = N + 1 := by have := HM.out; have := HM2.out; omega
                    have e4 : ¬ N + 1 = M2 := by have := HM.out; have := HM2.out; omega
                    have hn0 : w.heap.size ≤ N := by have := HN.out; omega
                    have hn1 : w.heap.size ≤ N + 1 := by have := HN.out; omega
                    have hn2 : w.heap.size ≠ N := by have := HN.out; omega
                    have hn3 : w.heap.size ≠ N + 1 := by have := HN.out; omega
                    clear q0 q1 q2 q3 q5 q6
                    go_wp2_with fail
                    go_roundg (60 - (k + 1))
                    case measure => have := HK.out.1; omega
                    case rel =>
                      refine ⟨k + 1, tick + dt, a0, a1, a3, a2, by omega, by go_num, rfl, Lib.hid ⟨by omega, HT2'.out.1, HT2'.out.2⟩, ?_, ?_, ?_, ?_⟩
                      · exact Lib.hid (put4_below (put4_below Q0.out hn0 _ _ _ _) hn1 _ _ _ _)
                      · exact Lib.hid (put4_other (put4_other Q1.out hn2 _ _ _ _) hn3 _ _ _ _)
                      · exact Lib.hid (put4_other (put4_heap Q2.out _ _ _ _) (by omega) _ _ _ _)
                      · exact Lib.hid (put4_heap (put4_other Q3.out (by omega) _ _ _ _) _ _ _ _)
          · have k2' : ¬ (k : Int) < (n2 : Int) := by omega
            go_wp2_with fail
            refine (alive23 _).mono ?_
            rintro e w2 ⟨rfl, hb2⟩
            go_wp2_with fail
            go_ret
            exact ⟨rfl, below_all BW.out hb2⟩
        · have k1' : ¬ (k : Int) < (n1 : Int) := by omega
          go_wp2_with fail
          refine (alive23 _).mono ?_
          rintro e w2 ⟨rfl, hb2⟩
          go_wp2_with fail
          go_ret
          exact ⟨rfl, below_all BW.out hb2⟩

end Go.Proofs.Ythhkcckikmldcaa
