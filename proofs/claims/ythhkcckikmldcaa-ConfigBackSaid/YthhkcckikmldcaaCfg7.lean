/-
  Config: contracts of the law's alive and Light. (Written by gen_cfg7.py, a program of this session's own.)
-/
import Derived.Test.YthhkcckikmldcaaCfg6
set_option linter.unusedVariables false
set_option linter.unusedSimpArgs false
namespace Go.Proofs.Ythhkcckikmldcaa
open Go.RowKit

theorem plSym {w : World} {b N c m d : Nat} {B : Option Addr} {R : Nat → Nat → Int} {x : Nat → Int} (h : CfgIn w (some ⟨b, 0, none⟩) N c B m d (fun _ => plS) R x) (hN : 0 < N) (j : Nat) (hj : j < 16) : w.cell? ⟨b, j, none⟩ = some (.int .i64 (plS j)) := by
  obtain ⟨b', off, e, hc⟩ := h.syms hN
  injection e with e
  injection e with e1 e2
  subst e1 e2
  have := hc 0 hN j hj
  simpa using this
def pqS (j : Nat) : Int := [5, 1003, 2000, 500, 20, 100, 3, 10, 5, 2, 500, 500, 1, 40, 12, 1000].getD j 0
theorem plOk : ∀ j, j < 16 → plS j ≤ 9223372036854775807 := by decide
theorem pqOk : ∀ j, j < 16 → pqS j ≤ 9223372036854775807 := by decide
theorem symF_pl : symF plS = 0 := by decide
theorem symF_pq : symF pqS = 8 := by decide
theorem chk_pl (n : Nat) (h : inB 1 8 n = true) : chkF n (fun _ => plS) 3 plR plX = 0 ∧ chkI n (fun _ => plS) 3 plR plX = 0 := by
  have ht : tabF 3 plR = 0 := by decide
  have h2 := chk_tail (n := n) (S := fun _ => plS) (m := 3) (R := plR) (x := plX) h (fun j _ => symF_pl) ht
  rw [h2.1, h2.2]
  exact ⟨by decide, rfl⟩
theorem bound_pl : boundF plS = 25 := by decide

set_option maxHeartbeats 4000000 in
theorem light7_any (A : Option Addr) (n c : Nat) (B : Option Addr) (m d : Nat) (x : Nat → Int) (w : World) (hn : n ≤ 9223372036854775807) (hm : m ≤ 9223372036854775807) :
    Calls Try.prog 31 #[.agg #[.slice A n c, .slice B m d, .int .i64 (x 0), .int .i64 (x 1), .int .i64 (x 2), .int .i64 (x 3), .int .i64 (x 4), .int .i64 (x 5)]] w fun e w' => e = .returned (.bool (decide (n ≤ 20) && decide (m ≤ 40))) ∧ Below w.heap.size w w' := by
  by_cases h1 : n ≤ 20
  · have h1' : (n : Int) ≤ 20 := by omega
    have E := Lib.hid (show (decide (n ≤ 20) && decide (m ≤ 40)) = decide ((m : Int) ≤ 40) by
      rw [decide_eq_true h1, Bool.true_and]
      by_cases h2 : m ≤ 40
      · rw [decide_eq_true h2, decide_eq_true (by omega)]
      · rw [decide_eq_false h2, decide_eq_false (by omega)])
    rw [E.out]
    by_cases h2 : m ≤ 40
    · have h2' : (m : Int) ≤ 40 := by omega
      go_enter Try.func31, Try.ntmps31
      go_wp2_with fail
      go_ret
      exact ⟨ret_bool (by first | rfl | exact (decide_eq_true h2').symm), below_al (Below.refl _ _) _⟩
    · have h2' : ¬ (m : Int) ≤ 40 := by omega
      go_enter Try.func31, Try.ntmps31
      go_wp2_with fail
      go_ret
      exact ⟨ret_bool (by first | rfl | exact (decide_eq_false (by omega)).symm), below_al (Below.refl _ _) _⟩
  · have E := Lib.hid (show (decide (n ≤ 20) && decide (m ≤ 40)) = false by rw [decide_eq_false h1]; rfl)
    have h1' : ¬ (n : Int) ≤ 20 := by omega
    rw [E.out]
    go_enter Try.func31, Try.ntmps31
    go_wp2_with fail
    go_ret
    exact ⟨rfl, below_al (Below.refl _ _) _⟩

theorem plain1 (w : World) : Calls Try.prog 70 #[.int .i64 1] w (PlainPost 1 w) := plain_any 1 (by omega) (by omega) w
theorem plain2 (w : World) : Calls Try.prog 70 #[.int .i64 2] w (PlainPost 2 w) := plain_any 2 (by omega) (by omega) w
/-- Check and Bound at Plain's own. -/
theorem check_pl {w : World} {b n c r d : Nat} (h : CfgIn w (some ⟨b, 0, none⟩) n c (some ⟨r, 0, none⟩) 3 d (fun _ => plS) plR plX) (hn : inB 1 8 n = true) :
    Calls Try.prog 33 #[.agg #[.slice (some ⟨b, 0, none⟩) n c, .slice (some ⟨r, 0, none⟩) 3 d, .int .i64 10000, .int .i64 700, .int .i64 1300, .int .i64 2000, .int .i64 15, .int .i64 30]] w fun e w' => e = .returned (.tuple #[.int .i64 0, .int .i64 0]) ∧ Below w.heap.size w w' := by
  have := check_any (some ⟨b, 0, none⟩) n c (some ⟨r, 0, none⟩) 3 d (fun _ => plS) plR plX w h
  rw [(chk_pl n hn).1, (chk_pl n hn).2] at this
  exact this
theorem bound_pl_any (w : World) : Calls Try.prog 54 #[.agg #[.int .i64 5, .int .i64 1000, .int .i64 2000, .int .i64 500, .int .i64 20, .int .i64 100, .int .i64 3, .int .i64 10, .int .i64 5, .int .i64 2, .int .i64 500, .int .i64 500, .int .i64 1, .int .i64 40, .int .i64 12, .int .i64 1000]] w fun e w' => e = .returned (.int .i64 25) ∧ Below w.heap.size w w' := by
  have := bound_any plS w plOk
  rw [bound_pl] at this
  exact this
theorem symbol_pq_any (w : World) : Calls Try.prog 52 #[.agg #[.int .i64 5, .int .i64 1003, .int .i64 2000, .int .i64 500, .int .i64 20, .int .i64 100, .int .i64 3, .int .i64 10, .int .i64 5, .int .i64 2, .int .i64 500, .int .i64 500, .int .i64 1, .int .i64 40, .int .i64 12, .int .i64 1000]] w fun e w' => e = .returned (.int .i64 8) ∧ Below w.heap.size w w' := by
  have := symbol_any pqS w pqOk
  rw [symF_pq] at this
  exact this

theorem field35_0 (v0 v1 v2 v3 v4 v5 v6 v7 : Value) (w : World) : Sem.run Try.prog (Instr.field 35 (.agg #[v0, v1, v2, v3, v4, v5, v6, v7]) 0) w = .ok v0 w := by kernel_rfl

set_option maxRecDepth 100000 in
set_option maxHeartbeats 4000000 in
theorem alive7 (w : World) : Calls Try.prog 27 #[] w fun e w' => e = .returned (.bool true) ∧ Below w.heap.size w w' := by
  have hfd := field35_0
  go_enter Try.func27, Try.ntmps27
  go_wp2_with fail
  refine (plain1 _).mono ?_
  rintro e w1 ⟨b, c, r, d, rfl, hc1, hb1⟩
  have y0 : w1.cell? ⟨b, 0, none⟩ = some (.int .i64 5) := plSym hc1 (by omega) 0 (by omega)
  have y1 : w1.cell? ⟨b, 1, none⟩ = some (.int .i64 1000) := plSym hc1 (by omega) 1 (by omega)
  have y2 : w1.cell? ⟨b, 2, none⟩ = some (.int .i64 2000) := plSym hc1 (by omega) 2 (by omega)
  have y3 : w1.cell? ⟨b, 3, none⟩ = some (.int .i64 500) := plSym hc1 (by omega) 3 (by omega)
  have y4 : w1.cell? ⟨b, 4, none⟩ = some (.int .i64 20) := plSym hc1 (by omega) 4 (by omega)
  have y5 : w1.cell? ⟨b, 5, none⟩ = some (.int .i64 100) := plSym hc1 (by omega) 5 (by omega)
  have y6 : w1.cell? ⟨b, 6, none⟩ = some (.int .i64 3) := plSym hc1 (by omega) 6 (by omega)
  have y7 : w1.cell? ⟨b, 7, none⟩ = some (.int .i64 10) := plSym hc1 (by omega) 7 (by omega)
  have y8 : w1.cell? ⟨b, 8, none⟩ = some (.int .i64 5) := plSym hc1 (by omega) 8 (by omega)
  have y9 : w1.cell? ⟨b, 9, none⟩ = some (.int .i64 2) := plSym hc1 (by omega) 9 (by omega)
  have y10 : w1.cell? ⟨b, 10, none⟩ = some (.int .i64 500) := plSym hc1 (by omega) 10 (by omega)
  have y11 : w1.cell? ⟨b, 11, none⟩ = some (.int .i64 500) := plSym hc1 (by omega) 11 (by omega)
  have y12 : w1.cell? ⟨b, 12, none⟩ = some (.int .i64 1) := plSym hc1 (by omega) 12 (by omega)
  have y13 : w1.cell? ⟨b, 13, none⟩ = some (.int .i64 40) := plSym hc1 (by omega) 13 (by omega)
  have y14 : w1.cell? ⟨b, 14, none⟩ = some (.int .i64 12) := plSym hc1 (by omega) 14 (by omega)
  have y15 : w1.cell? ⟨b, 15, none⟩ = some (.int .i64 1000) := plSym hc1 (by omega) 15 (by omega)
  have B1 := Lib.hid hb1
  clear hc1 hb1
  go_wp2_with fail
  refine (plain2 _).mono ?_
  rintro e w2 ⟨b2, c2, r2, d2, rfl, hc2, hb2⟩
  have HC := Lib.hid (check_pl hc2 (by decide))
  have q0 := fun j v (h : (#[.int .i64 5, .int .i64 1003, .int .i64 2000, .int .i64 500, .int .i64 20, .int .i64 100, .int .i64 3, .int .i64 10, .int .i64 5, .int .i64 2, .int .i64 500, .int .i64 500, .int .i64 1, .int .i64 40, .int .i64 12, .int .i64 1000] : Array Value)[j]? = some v) => bcell hb2 (cell_new_at w1 #[.int .i64 5, .int .i64 1003, .int .i64 2000, .int .i64 500, .int .i64 20, .int .i64 100, .int .i64 3, .int .i64 10, .int .i64 5, .int .i64 2, .int .i64 500, .int .i64 500, .int .i64 1, .int .i64 40, .int .i64 12, .int .i64 1000] 56 j v h)
  have x0 := q0 0 _ rfl
  have x1 := q0 1 _ rfl
  have x2 := q0 2 _ rfl
  have x3 := q0 3 _ rfl
  have x4 := q0 4 _ rfl
  have x5 := q0 5 _ rfl
  have x6 := q0 6 _ rfl
  have x7 := q0 7 _ rfl
  have x8 := q0 8 _ rfl
  have x9 := q0 9 _ rfl
  have x10 := q0 10 _ rfl
  have x11 := q0 11 _ rfl
  have x12 := q0 12 _ rfl
  have x13 := q0 13 _ rfl
  have x14 := q0 14 _ rfl
  have x15 := q0 15 _ rfl
  have B2 := Lib.hid hb2
  clear hc2 hb2 q0 y0 y1 y2 y3 y4 y5 y6 y7 y8 y9 y10 y11 y12 y13 y14 y15
  go_wp2_with fail
  refine (HC.out).mono ?_
  rintro e w3 ⟨rfl, hb3⟩
  have z0 := bcell hb3 x0
  have z1 := bcell hb3 x1
  have z2 := bcell hb3 x2
  have z3 := bcell hb3 x3
  have z4 := bcell hb3 x4
  have z5 := bcell hb3 x5
  have z6 := bcell hb3 x6
  have z7 := bcell hb3 x7
  have z8 := bcell hb3 x8
  have z9 := bcell hb3 x9
  have z10 := bcell hb3 x10
  have z11 := bcell hb3 x11
  have z12 := bcell hb3 x12
  have z13 := bcell hb3 x13
  have z14 := bcell hb3 x14
  have z15 := bcell hb3 x15
  have B3 := Lib.hid hb3
  clear hb3 x0 x1 x2 x3 x4 x5 x6 x7 x8 x9 x10 x11 x12 x13 x14 x15
  go_wp2_with fail
  refine (symbol_pq_any _).mono ?_
  rintro e w4 ⟨rfl, hb4⟩
  have B4 := Lib.hid hb4
  clear hb4 z0 z1 z2 z3 z4 z5 z6 z7 z8 z9 z10 z11 z12 z13 z14 z15
  go_wp2_with fail
  refine (plain1 _).mono ?_
  rintro e w5 ⟨b5, c5, r5, d5, rfl, hc5, hb5⟩
  have y0 : w5.cell? ⟨b5, 0, none⟩ = some (.int .i64 5) := plSym hc5 (by omega) 0 (by omega)
  have y1 : w5.cell? ⟨b5, 1, none⟩ = some (.int .i64 1000) := plSym hc5 (by omega) 1 (by omega)
  have y2 : w5.cell? ⟨b5, 2, none⟩ = some (.int .i64 2000) := plSym hc5 (by omega) 2 (by omega)
  have y3 : w5.cell? ⟨b5, 3, none⟩ = some (.int .i64 500) := plSym hc5 (by omega) 3 (by omega)
  have y4 : w5.cell? ⟨b5, 4, none⟩ = some (.int .i64 20) := plSym hc5 (by omega) 4 (by omega)
  have y5 : w5.cell? ⟨b5, 5, none⟩ = some (.int .i64 100) := plSym hc5 (by omega) 5 (by omega)
  have y6 : w5.cell? ⟨b5, 6, none⟩ = some (.int .i64 3) := plSym hc5 (by omega) 6 (by omega)
  have y7 : w5.cell? ⟨b5, 7, none⟩ = some (.int .i64 10) := plSym hc5 (by omega) 7 (by omega)
  have y8 : w5.cell? ⟨b5, 8, none⟩ = some (.int .i64 5) := plSym hc5 (by omega) 8 (by omega)
  have y9 : w5.cell? ⟨b5, 9, none⟩ = some (.int .i64 2) := plSym hc5 (by omega) 9 (by omega)
  have y10 : w5.cell? ⟨b5, 10, none⟩ = some (.int .i64 500) := plSym hc5 (by omega) 10 (by omega)
  have y11 : w5.cell? ⟨b5, 11, none⟩ = some (.int .i64 500) := plSym hc5 (by omega) 11 (by omega)
  have y12 : w5.cell? ⟨b5, 12, none⟩ = some (.int .i64 1) := plSym hc5 (by omega) 12 (by omega)
  have y13 : w5.cell? ⟨b5, 13, none⟩ = some (.int .i64 40) := plSym hc5 (by omega) 13 (by omega)
  have y14 : w5.cell? ⟨b5, 14, none⟩ = some (.int .i64 12) := plSym hc5 (by omega) 14 (by omega)
  have y15 : w5.cell? ⟨b5, 15, none⟩ = some (.int .i64 1000) := plSym hc5 (by omega) 15 (by omega)
  have B5 := Lib.hid hb5
  clear hc5 hb5
  go_wp2_with fail
  refine (bound_pl_any _).mono ?_
  rintro e w6 ⟨rfl, hb6⟩
  clear y0 y1 y2 y3 y4 y5 y6 y7 y8 y9 y10 y11 y12 y13 y14 y15
  go_wp2_with fail
  go_ret
  exact ⟨rfl, below_all (below_all (below_all (below_all (below_all (below_al B1.out _) B2.out) B3.out) B4.out) B5.out) hb6⟩

end Go.Proofs.Ythhkcckikmldcaa
