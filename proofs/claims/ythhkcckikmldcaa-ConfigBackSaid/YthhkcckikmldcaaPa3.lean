/-
  Pause: contracts of the law's light and alive. (Written by gen_pa3.py, a program of this session's own.)
-/
import Derived.Test.YthhkcckikmldcaaPa2
import Derived.Test.YthhkcckikmldcaaCfg7
import Derived.Test.YthhkcckikmldcaaLoad
set_option linter.unusedVariables false
set_option linter.unusedSimpArgs false
namespace Go.Proofs.Ythhkcckikmldcaa
open Go.RowKit

def tickOk (G : Nat → Int) : Nat → Bool
  | 0 => true
  | k + 1 => tickOk G k && inB 0 1152921504606846976 (G k)
theorem tickOk_false (G : Nat → Int) (k m : Nat) (h : tickOk G (k + 1) = false) : tickOk G (k + 1 + m) = false := by
  induction m with
  | zero => exact h
  | succ m ih => show (tickOk G (k + 1 + m) && _) = false; rw [ih]; rfl
def lightB (g : Nat → Int) (q u : Int) : Bool := (symF g == 0) && (inB 0 10 q && inB 0 1152921504606846976 u)

set_option maxHeartbeats 4000000 in
theorem light22_any (g : Nat → Int) (p q u : Int) (A : Option Addr) (n c : Nat) (G : Nat → Int) (w : World) (hn : n ≤ 1000) (h : 0 < n → ∃ b off, A = some ⟨b, off, none⟩ ∧ ∀ i, i < n → w.cell? ⟨b, off + i, none⟩ = some (.int .i64 (G i))) (hg : ∀ j, j < 16 → g j ≤ 9223372036854775807) :
    Calls Try.prog 38 #[.agg #[.int .i64 (g 0), .int .i64 (g 1), .int .i64 (g 2), .int .i64 (g 3), .int .i64 (g 4), .int .i64 (g 5), .int .i64 (g 6), .int .i64 (g 7), .int .i64 (g 8), .int .i64 (g 9), .int .i64 (g 10), .int .i64 (g 11), .int .i64 (g 12), .int .i64 (g 13), .int .i64 (g 14), .int .i64 (g 15)], .agg #[.int .i64 p, .int .i64 q, .int .i64 u], .slice A n c] w fun e w' => e = .returned (.bool (tickOk G n && lightB g q u)) ∧ Below w.heap.size w w' := by
  have H := Lib.hid h
  obtain ⟨R, hR⟩ : ∃ R, R = (tickOk G n && lightB g q u) := ⟨_, rfl⟩
  rw [← hR]
  have HR := Lib.hid hR
  have HP := Lib.hid (symbol_any g ((w.alloc (.cells #[.int .i64 (g 0), .int .i64 (g 1), .int .i64 (g 2), .int .i64 (g 3), .int .i64 (g 4), .int .i64 (g 5), .int .i64 (g 6), .int .i64 (g 7), .int .i64 (g 8), .int .i64 (g 9), .int .i64 (g 10), .int .i64 (g 11), .int .i64 (g 12), .int .i64 (g 13), .int .i64 (g 14), .int .i64 (g 15)] 56)).alloc (.cells #[.int .i64 p, .int .i64 q, .int .i64 u] 58)) hg)
  have HQ := Lib.hid (fun W (hb : Below ((w.alloc (.cells #[.int .i64 (g 0), .int .i64 (g 1), .int .i64 (g 2), .int .i64 (g 3), .int .i64 (g 4), .int .i64 (g 5), .int .i64 (g 6), .int .i64 (g 7), .int .i64 (g 8), .int .i64 (g 9), .int .i64 (g 10), .int .i64 (g 11), .int .i64 (g 12), .int .i64 (g 13), .int .i64 (g 14), .int .i64 (g 15)] 56)).alloc (.cells #[.int .i64 p, .int .i64 q, .int .i64 u] 58)).heap.size ((w.alloc (.cells #[.int .i64 (g 0), .int .i64 (g 1), .int .i64 (g 2), .int .i64 (g 3), .int .i64 (g 4), .int .i64 (g 5), .int .i64 (g 6), .int .i64 (g 7), .int .i64 (g 8), .int .i64 (g 9), .int .i64 (g 10), .int .i64 (g 11), .int .i64 (g 12), .int .i64 (g 13), .int .i64 (g 14), .int .i64 (g 15)] 56)).alloc (.cells #[.int .i64 p, .int .i64 q, .int .i64 u] 58)) W) => bcell (b := w.heap.size + 1) (o := 1) (v := .int .i64 q) hb (by simp [go_sem]))
  have HU := Lib.hid (fun W (hb : Below ((w.alloc (.cells #[.int .i64 (g 0), .int .i64 (g 1), .int .i64 (g 2), .int .i64 (g 3), .int .i64 (g 4), .int .i64 (g 5), .int .i64 (g 6), .int .i64 (g 7), .int .i64 (g 8), .int .i64 (g 9), .int .i64 (g 10), .int .i64 (g 11), .int .i64 (g 12), .int .i64 (g 13), .int .i64 (g 14), .int .i64 (g 15)] 56)).alloc (.cells #[.int .i64 p, .int .i64 q, .int .i64 u] 58)).heap.size ((w.alloc (.cells #[.int .i64 (g 0), .int .i64 (g 1), .int .i64 (g 2), .int .i64 (g 3), .int .i64 (g 4), .int .i64 (g 5), .int .i64 (g 6), .int .i64 (g 7), .int .i64 (g 8), .int .i64 (g 9), .int .i64 (g 10), .int .i64 (g 11), .int .i64 (g 12), .int .i64 (g 13), .int .i64 (g 14), .int .i64 (g 15)] 56)).alloc (.cells #[.int .i64 p, .int .i64 q, .int .i64 u] 58)) W) => bcell (b := w.heap.size + 1) (o := 2) (v := .int .i64 u) hb (by simp [go_sem]))
  have HB := Lib.hid (fun b o v (hc : w.cell? ⟨b, o, none⟩ = some v) => bcell (below_al (below_al (Below.refl w.heap.size w) (.cells #[.int .i64 (g 0), .int .i64 (g 1), .int .i64 (g 2), .int .i64 (g 3), .int .i64 (g 4), .int .i64 (g 5), .int .i64 (g 6), .int .i64 (g 7), .int .i64 (g 8), .int .i64 (g 9), .int .i64 (g 10), .int .i64 (g 11), .int .i64 (g 12), .int .i64 (g 13), .int .i64 (g 14), .int .i64 (g 15)] 56)) (.cells #[.int .i64 p, .int .i64 q, .int .i64 u] 58)) hc)
  clear h hg hR
  go_enter Try.func38, Try.ntmps38
  go_wp2_with fail
  go_loop [7] (fun i => ∃ k : Nat, k ≤ n ∧ i = .int .i64 k ∧ Hid (tickOk G k = true)) (fun i => n - (intOf i).toNat)
  case atStart => exact ⟨0, Nat.zero_le _, rfl, (rfl : tickOk G 0 = true)⟩
  case round =>
    obtain ⟨k, hk, rfl, I⟩ := hrel
    by_cases hlt : k < n
    · have hlt' : (k : Int) < (n : Int) := by omega
      obtain ⟨b, off, rfl, hc⟩ := H.out (by omega)
      have h1 := HB.out _ _ _ (hc k hlt)
      have hno : inB 0 1152921504606846976 (G k) = false → Hid (R = false) := fun hh => by
        have := tickOk_false G k (n - (k + 1)) (by show (tickOk G k && _) = false; rw [hh]; simp)
        rw [show k + 1 + (n - (k + 1)) = n by omega] at this
        show R = false
        rw [HR.out, this]; rfl
      have hyes : inB 0 1152921504606846976 (G k) = true → Hid (tickOk G (k + 1) = true) := fun hh => by
        show (tickOk G k && inB 0 1152921504606846976 (G k)) = true
        rw [I.out, hh]; rfl
      by_cases c1 : G k < 0
      · have E := hno (inB_no (by omega))
        clear hno hyes hc
        generalize G k = x at h1 c1
        go_wp2_with fail
        go_ret
        exact ⟨by rw [show R = false from E.out]; rfl, below_al (below_al (Below.refl _ _) _) _⟩
      · by_cases c2 : 1152921504606846976 < G k
        · have E := hno (inB_no (by omega))
          clear hno hyes hc
          generalize G k = x at h1 c1 c2
          go_wp2_with fail
          go_ret
          exact ⟨by rw [show R = false from E.out]; rfl, below_al (below_al (Below.refl _ _) _) _⟩
        · have E := hyes ((inB_iff _ _ _).2 (by omega))
          clear hno hyes hc
          generalize G k = x at h1 c1 c2
          go_wp2_with fail
          go_round
          case rel => exact ⟨k + 1, by omega, by go_num, E⟩
          case measure => simp [intOf]; omega
    · obtain rfl : n = k := by omega
      by_cases hz : symF g = 0
      · have HR := Lib.hid (show R = (inB 0 10 q && inB 0 1152921504606846976 u) by rw [HR.out, I.out]; unfold lightB; rw [hz]; rfl)
        rw [hz] at HP
        clear hz
        by_cases c1 : 0 ≤ q
        · by_cases c2 : q ≤ 10
          · by_cases c3 : 0 ≤ u
            · have HR := Lib.hid (show R = decide (u ≤ 1152921504606846976) by rw [HR.out]; simp [inB, c1, c2, c3])
              go_wp2_with fail
              refine (HP.out).mono ?_
              rintro e w1 ⟨rfl, hb⟩
              have c1 := HQ.out _ hb
              have c2 := HU.out _ hb
              go_wp2_with fail
              go_ret
              exact ⟨ret_bool (by rw [HR.out]), below_all (below_al (below_al (Below.refl _ _) _) _) hb⟩
            · have HR := Lib.hid (show R = false by rw [HR.out]; simp [inB, c1, c2, c3])
              go_wp2_with fail
              refine (HP.out).mono ?_
              rintro e w1 ⟨rfl, hb⟩
              have c1 := HQ.out _ hb
              have c2 := HU.out _ hb
              go_wp2_with fail
              go_ret
              exact ⟨ret_bool (by rw [HR.out]), below_all (below_al (below_al (Below.refl _ _) _) _) hb⟩
          · have HR := Lib.hid (show R = false by rw [HR.out]; simp [inB, c1, c2])
            go_wp2_with fail
            refine (HP.out).mono ?_
            rintro e w1 ⟨rfl, hb⟩
            have c1 := HQ.out _ hb
            have c2 := HU.out _ hb
            go_wp2_with fail
            go_ret
            exact ⟨ret_bool (by rw [HR.out]), below_all (below_al (below_al (Below.refl _ _) _) _) hb⟩
        · have HR := Lib.hid (show R = false by rw [HR.out]; simp [inB, c1])
          go_wp2_with fail
          refine (HP.out).mono ?_
          rintro e w1 ⟨rfl, hb⟩
          have c1 := HQ.out _ hb
          have c2 := HU.out _ hb
          go_wp2_with fail
          go_ret
          exact ⟨ret_bool (by rw [HR.out]), below_all (below_al (below_al (Below.refl _ _) _) _) hb⟩
      · have HR := Lib.hid (show R = false by rw [HR.out]; unfold lightB; rw [beq_eq_false_iff_ne.2 hz]; simp)
        have hb0 : (symF g == 0) = false := beq_eq_false_iff_ne.2 hz
        clear hz
        generalize symF g = sf at HP hb0
        go_wp2_with fail
        refine (HP.out).mono ?_
        rintro e w1 ⟨rfl, hb⟩
        have c1 := HQ.out _ hb
        have c2 := HU.out _ hb
        go_wp2_with fail
        go_ret
        exact ⟨ret_bool (by rw [HR.out]), below_all (below_al (below_al (Below.refl _ _) _) _) hb⟩

theorem begin_pl (w : World) : Calls Try.prog 43 #[.agg #[.int .i64 5, .int .i64 1000, .int .i64 2000, .int .i64 500, .int .i64 20, .int .i64 100, .int .i64 3, .int .i64 10, .int .i64 5, .int .i64 2, .int .i64 500, .int .i64 500, .int .i64 1, .int .i64 40, .int .i64 12, .int .i64 1000], .int .i64 100] w fun e w' => e = .returned (.agg #[.int .i64 3, .int .i64 0, .int .i64 110]) ∧ Below w.heap.size w w' := by
  have := begin_any plS 100 w
  rw [show wrap64 (100 + plS 7) = 110 from by unfold wrap64; decide] at this
  exact this
theorem due_pl (w : World) : Calls Try.prog 40 #[.agg #[.int .i64 3, .int .i64 0, .int .i64 110]] w fun e w' => e = .returned (.tuple #[.int .i64 110, .bool true]) ∧ Below w.heap.size w w' := due_any 3 0 110 w
theorem latest_pl (w : World) : Calls Try.prog 49 #[.agg #[.int .i64 5, .int .i64 1000, .int .i64 2000, .int .i64 500, .int .i64 20, .int .i64 100, .int .i64 3, .int .i64 10, .int .i64 5, .int .i64 2, .int .i64 500, .int .i64 500, .int .i64 1, .int .i64 40, .int .i64 12, .int .i64 1000], .int .i64 100] w fun e w' => e = .returned (.int .i64 125) ∧ Below w.heap.size w w' := by
  have := latest_any plS 100 w plOk
  rw [bound_pl, show wrap64 (100 + 25) = 125 from by unfold wrap64; decide] at this
  exact this
theorem extend_pl (w : World) : Calls Try.prog 47 #[.agg #[.int .i64 5, .int .i64 1000, .int .i64 2000, .int .i64 500, .int .i64 20, .int .i64 100, .int .i64 3, .int .i64 10, .int .i64 5, .int .i64 2, .int .i64 500, .int .i64 500, .int .i64 1, .int .i64 40, .int .i64 12, .int .i64 1000], .agg #[.int .i64 3, .int .i64 0, .int .i64 110]] w fun e w' => e = .returned (.agg #[.int .i64 4, .int .i64 1, .int .i64 115]) ∧ Below w.heap.size w w' := by
  have := extend_any plS 3 0 110 w
  rw [show wrap64 (0 + 1) = 1 from by unfold wrap64; decide, show wrap64 (110 + plS 8) = 115 from by unfold wrap64; decide] at this
  exact this

set_option maxRecDepth 100000 in
set_option maxHeartbeats 4000000 in
theorem alive22 (w : World) : Calls Try.prog 39 #[] w fun e w' => e = .returned (.bool true) ∧ Below w.heap.size w w' := by
  have hfd := field35_0
  go_enter Try.func39, Try.ntmps39
  go_wp2_with fail
  refine (plain1 _).mono ?_
  rintro e w1 ⟨b, c, r, d, rfl, hc1, hb1⟩
  have y0 : w1.cell? ⟨b, 0, none⟩ = some (.int .i64 5) := plSym hc1 (by omega) 0 (by omega)
  have y1 : w1.cell? ⟨b, 1, none⟩ = some (.int .i64 1000) := plSym hc1 (by omega) 1 (by omega)
  have y2 : w1.cell? ⟨b, 2, none⟩ = some (.int .i64 2000) := plSym hc1 (by omega) 2 (by omega)
  have y3 : w1.cell? ⟨b, 3, none⟩ = some (.int .i64 500) := plSym hc1 (by omega) 3 (by omega)
  have y4 : w1.cell? ⟨b, 4, none⟩ = some (.int .i64 20) := plSym hc1 (by omega) 4 (by omega)
  have y5 : w1.cell? ⟨b, 5, none⟩ = some (.int .i64 100) := plSym hc1 (by omega) 5 (by omega)
  have y6 : w1.cell? ⟨b, 6, none⟩ = some (.int .i64 3) := plSym hc1 (by omega) 6 (by omega)
  have y7 : w1.cell? ⟨b, 7, none⟩ = some (.int .i64 10) := plSym hc1 (by omega) 7 (by omega)
  have y8 : w1.cell? ⟨b, 8, none⟩ = some (.int .i64 5) := plSym hc1 (by omega) 8 (by omega)
  have y9 : w1.cell? ⟨b, 9, none⟩ = some (.int .i64 2) := plSym hc1 (by omega) 9 (by omega)
  have y10 : w1.cell? ⟨b, 10, none⟩ = some (.int .i64 500) := plSym hc1 (by omega) 10 (by omega)
  have y11 : w1.cell? ⟨b, 11, none⟩ = some (.int .i64 500) := plSym hc1 (by omega) 11 (by omega)
  have y12 : w1.cell? ⟨b, 12, none⟩ = some (.int .i64 1) := plSym hc1 (by omega) 12 (by omega)
  have y13 : w1.cell? ⟨b, 13, none⟩ = some (.int .i64 40) := plSym hc1 (by omega) 13 (by omega)
  have y14 : w1.cell? ⟨b, 14, none⟩ = some (.int .i64 12) := plSym hc1 (by omega) 14 (by omega)
  have y15 : w1.cell? ⟨b, 15, none⟩ = some (.int .i64 1000) := plSym hc1 (by omega) 15 (by omega)
  have B1 := Lib.hid hb1
  clear hc1 hb1
  go_wp2_with fail
  refine (begin_pl _).mono ?_
  rintro e w2 ⟨rfl, hb2⟩
  have k1 : w2.heap[w1.heap.size]? = some (.cells #[.int .i64 5, .int .i64 1000, .int .i64 2000, .int .i64 500, .int .i64 20, .int .i64 100, .int .i64 3, .int .i64 10, .int .i64 5, .int .i64 2, .int .i64 500, .int .i64 500, .int .i64 1, .int .i64 40, .int .i64 12, .int .i64 1000] 56 (0, 0)) := block_keep hb2 (by simp) (heap_new w1 _)
  have B2 := Lib.hid (below_all (below_al B1.out _) hb2)
  clear hb2 y0 y1 y2 y3 y4 y5 y6 y7 y8 y9 y10 y11 y12 y13 y14 y15
  go_wp2_with (first | (refine wpList_load_blk 56 _ rfl rfl _ rfl 56 _ _ _ k1 Try.underlying56 rfl (by kernel_rfl) ?_))
  refine (due_pl _).mono ?_
  rintro e w3 ⟨rfl, hb3⟩
  have k2 : w3.heap[w1.heap.size]? = some (.cells #[.int .i64 5, .int .i64 1000, .int .i64 2000, .int .i64 500, .int .i64 20, .int .i64 100, .int .i64 3, .int .i64 10, .int .i64 5, .int .i64 2, .int .i64 500, .int .i64 500, .int .i64 1, .int .i64 40, .int .i64 12, .int .i64 1000] 56 (0, 0)) := block_keep hb3 (by have := lt_of_heap k1; simp; omega) (alloc_old _ k1)
  have m2 : w3.heap[w2.heap.size]? = some (.cells #[.int .i64 3, .int .i64 0, .int .i64 110] 61 (0, 0)) := block_keep hb3 (by simp) (heap_new w2 _)
  have B3 := Lib.hid (below_all (below_al B2.out _) hb3)
  clear hb3 k1
  go_wp2_with (first | (refine wpList_load_blk 56 _ rfl rfl _ rfl 56 _ _ _ k2 Try.underlying56 rfl (by kernel_rfl) ?_))
  refine (latest_pl _).mono ?_
  rintro e w4 ⟨rfl, hb4⟩
  have k3 := block_keep hb4 (lt_of_heap k2) k2
  have m3 := block_keep hb4 (lt_of_heap m2) m2
  have B4 := Lib.hid (below_all B3.out hb4)
  clear hb4 k2 m2
  go_wp2_with (first | (refine wpList_load_blk 56 _ rfl rfl _ rfl 56 _ _ _ k3 Try.underlying56 rfl (by kernel_rfl) ?_) | (refine wpList_load_blk 61 _ rfl rfl _ rfl 61 _ _ _ m3 Try.underlying61 rfl (by kernel_rfl) ?_))
  refine (extend_pl _).mono ?_
  rintro e w5 ⟨rfl, hb5⟩
  clear k3 m3
  go_wp2_with fail
  go_ret
  exact ⟨rfl, below_all B4.out hb5⟩

end Go.Proofs.Ythhkcckikmldcaa
