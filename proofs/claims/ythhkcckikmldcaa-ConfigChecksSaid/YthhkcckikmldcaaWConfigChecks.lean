/-
  The walk of ConfigChecks. (Written by gen_cfg8.py, a program of this session's own.)
-/
import Derived.Test.YthhkcckikmldcaaCfg7
import Derived.Deep.RegionHeld3
set_option linter.unusedVariables false
set_option linter.unusedSimpArgs false
namespace Go.Proofs.Ythhkcckikmldcaa
open Go.RowKit

set_option maxRecDepth 100000 in
set_option maxHeartbeats 8000000 in
theorem walkConfigChecks (w : World) (A : Option Addr) (n c : Nat) (B : Option Addr) (m d : Nat) (S R : Nat → Nat → Int) (x : Nat → Int) (h : CfgIn w A n c B m d S R x) :
    Calls Try.prog 10 #[.agg #[.slice A n c, .slice B m d, .int .i64 (x 0), .int .i64 (x 1), .int .i64 (x 2), .int .i64 (x 3), .int .i64 (x 4), .int .i64 (x 5)]] w fun e w' => e = .returned (.bool true) ∧ Below w.heap.size w w' := by
  have hnc := h.nc
  have hcm := h.cm
  have hmd := h.md
  have hdm := h.dm
  have hbx := fun j v (hv : (#[.slice A n c, .slice B m d, .int .i64 (x 0), .int .i64 (x 1), .int .i64 (x 2), .int .i64 (x 3), .int .i64 (x 4), .int .i64 (x 5)] : Array Value)[j]? = some v) => cell_new_at w #[.slice A n c, .slice B m d, .int .i64 (x 0), .int .i64 (x 1), .int .i64 (x 2), .int .i64 (x 3), .int .i64 (x 4), .int .i64 (x 5)] 35 j v hv
  have HBX := Lib.hid hbx
  have HL := Lib.hid (light7_any A n c B m d x (w.alloc (.cells #[.slice A n c, .slice B m d, .int .i64 (x 0), .int .i64 (x 1), .int .i64 (x 2), .int .i64 (x 3), .int .i64 (x 4), .int .i64 (x 5)] 35)) (by omega) (by omega))
  by_cases hl : n ≤ 20 ∧ m ≤ 40
  · have e : (decide (n ≤ 20) && decide (m ≤ 40)) = true := by rw [decide_eq_true hl.1, decide_eq_true hl.2]; rfl
    rw [e] at HL
    have HC := Lib.hid (fun W (hb : Below w.heap.size w W) => check_any A n c B m d S R x W (h.below hb))
    have HD := Lib.hid (fun W (hb : Below w.heap.size w W) => refCheck_any A n c B m d S R x W (h.below hb))
    have HT := Lib.hid h.syms
    have HSok := Lib.hid (fun i (hi : i < n) j (hj : j < 16) => (h.sOk i hi j hj).2)
    have B0 := Lib.hid (below_al (Below.refl w.heap.size w) (.cells #[.slice A n c, .slice B m d, .int .i64 (x 0), .int .i64 (x 1), .int .i64 (x 2), .int .i64 (x 3), .int .i64 (x 4), .int .i64 (x 5)] 35))
    clear hbx h hl e
    go_enter Try.func10, Try.ntmps10
    go_wp2_with fail
    refine (HL.out).mono ?_
    rintro e w1 ⟨rfl, hb1⟩
    have p0 := bcell hb1 (HBX.out 0 _ rfl)
    have p1 := bcell hb1 (HBX.out 1 _ rfl)
    have p2 := bcell hb1 (HBX.out 2 _ rfl)
    have p3 := bcell hb1 (HBX.out 3 _ rfl)
    have p4 := bcell hb1 (HBX.out 4 _ rfl)
    have p5 := bcell hb1 (HBX.out 5 _ rfl)
    have p6 := bcell hb1 (HBX.out 6 _ rfl)
    have p7 := bcell hb1 (HBX.out 7 _ rfl)
    have B1 := Lib.hid (below_all B0.out hb1)
    have K1 := Lib.hid hb1
    clear hb1
    go_wp2_with fail
    refine (HC.out _ B1.out).mono ?_
    rintro e w2 ⟨rfl, hb2⟩
    have q0 := bcell (below_all K1.out hb2) (HBX.out 0 _ rfl)
    have q1 := bcell (below_all K1.out hb2) (HBX.out 1 _ rfl)
    have q2 := bcell (below_all K1.out hb2) (HBX.out 2 _ rfl)
    have q3 := bcell (below_all K1.out hb2) (HBX.out 3 _ rfl)
    have q4 := bcell (below_all K1.out hb2) (HBX.out 4 _ rfl)
    have q5 := bcell (below_all K1.out hb2) (HBX.out 5 _ rfl)
    have q6 := bcell (below_all K1.out hb2) (HBX.out 6 _ rfl)
    have q7 := bcell (below_all K1.out hb2) (HBX.out 7 _ rfl)
    have B2 := Lib.hid (below_all B1.out hb2)
    have K2 := Lib.hid (below_all K1.out hb2)
    clear hb2 p0 p1 p2 p3 p4 p5 p6 p7
    go_wp2_with fail
    refine (HD.out _ B2.out).mono ?_
    rintro e w3 ⟨rfl, hb3⟩
    have B3 := Lib.hid (below_all B2.out hb3)
    have K3 := Lib.hid (below_all K2.out hb3)
    clear hb3 q0 q1 q2 q3 q4 q5 q6 q7
    generalize chkF n S m R x = ff
    generalize chkI n S m R x = fi
    go_wp2_with fail
    go_loopw [7] (fun s7 wr => ∃ (k : Nat), k ≤ n ∧ s7 = .int .i64 k ∧ Hid (Below (w.alloc (.cells #[.slice A n c, .slice B m d, .int .i64 (x 0), .int .i64 (x 1), .int .i64 (x 2), .int .i64 (x 3), .int .i64 (x 4), .int .i64 (x 5)] 35)).heap.size (w.alloc (.cells #[.slice A n c, .slice B m d, .int .i64 (x 0), .int .i64 (x 1), .int .i64 (x 2), .int .i64 (x 3), .int .i64 (x 4), .int .i64 (x 5)] 35)) wr)) (fun s7 _ => n - (intOf s7).toNat)
    case atStart => exact ⟨0, Nat.zero_le _, rfl, K3.out⟩
    case round =>
      obtain ⟨k, hk, rfl, KW⟩ := hrel
      have BW := Lib.hid (below_all B0.out KW.out)
      have k0 := bcell KW.out (HBX.out 0 _ rfl)
      by_cases hlt : k < n
      · as_aux_lemma =>
        have hlt' : (k : Int) < (n : Int) := by omega
        obtain ⟨b, off, rfl, hc⟩ := HT.out (by omega)
        have HS := Lib.hid hc
        clear hc
        have s0 : wr.cell? ⟨b, off + k * 16, none⟩ = some (.int .i64 (S k 0)) := bcell BW.out (HS.out k hlt 0 (by omega))
        have s1 := bcell BW.out (HS.out k hlt 1 (by omega))
        have s2 := bcell BW.out (HS.out k hlt 2 (by omega))
        have s3 := bcell BW.out (HS.out k hlt 3 (by omega))
        have s4 := bcell BW.out (HS.out k hlt 4 (by omega))
        have s5 := bcell BW.out (HS.out k hlt 5 (by omega))
        have s6 := bcell BW.out (HS.out k hlt 6 (by omega))
        have s7 := bcell BW.out (HS.out k hlt 7 (by omega))
        have s8 := bcell BW.out (HS.out k hlt 8 (by omega))
        have s9 := bcell BW.out (HS.out k hlt 9 (by omega))
        have s10 := bcell BW.out (HS.out k hlt 10 (by omega))
        have s11 := bcell BW.out (HS.out k hlt 11 (by omega))
        have s12 := bcell BW.out (HS.out k hlt 12 (by omega))
        have s13 := bcell BW.out (HS.out k hlt 13 (by omega))
        have s14 := bcell BW.out (HS.out k hlt 14 (by omega))
        have s15 := bcell BW.out (HS.out k hlt 15 (by omega))
        have hsk := Lib.hid (HSok.out k hlt)
        generalize S k = sk at *
        clear HL HC HD HT HSok B0 B1 B2 B3 K1 K2 K3 HBX BW HS hmd hdm
        go_wp2_with fail
        go_region_held3 (fun w' => w'.cell? ⟨w.heap.size, 0, none⟩ = some (.slice (some ⟨b, off, none⟩) n c) ∧ w'.cell? ⟨b, off + k * 16, none⟩ = some (.int .i64 (sk 0)) ∧ w'.cell? ⟨b, off + k * 16 + 1, none⟩ = some (.int .i64 (sk 1)) ∧ w'.cell? ⟨b, off + k * 16 + 2, none⟩ = some (.int .i64 (sk 2)) ∧ w'.cell? ⟨b, off + k * 16 + 3, none⟩ = some (.int .i64 (sk 3)) ∧ w'.cell? ⟨b, off + k * 16 + 4, none⟩ = some (.int .i64 (sk 4)) ∧ w'.cell? ⟨b, off + k * 16 + 5, none⟩ = some (.int .i64 (sk 5)) ∧ w'.cell? ⟨b, off + k * 16 + 6, none⟩ = some (.int .i64 (sk 6)) ∧ w'.cell? ⟨b, off + k * 16 + 7, none⟩ = some (.int .i64 (sk 7)) ∧ w'.cell? ⟨b, off + k * 16 + 8, none⟩ = some (.int .i64 (sk 8)) ∧ w'.cell? ⟨b, off + k * 16 + 9, none⟩ = some (.int .i64 (sk 9)) ∧ w'.cell? ⟨b, off + k * 16 + 10, none⟩ = some (.int .i64 (sk 10)) ∧ w'.cell? ⟨b, off + k * 16 + 11, none⟩ = some (.int .i64 (sk 11)) ∧ w'.cell? ⟨b, off + k * 16 + 12, none⟩ = some (.int .i64 (sk 12)) ∧ w'.cell? ⟨b, off + k * 16 + 13, none⟩ = some (.int .i64 (sk 13)) ∧ w'.cell? ⟨b, off + k * 16 + 14, none⟩ = some (.int .i64 (sk 14)) ∧ w'.cell? ⟨b, off + k * 16 + 15, none⟩ = some (.int .i64 (sk 15)))
          (first | (go_split_ands; refine ⟨?_, ?_, ?_, ?_, ?_, ?_, ?_, ?_, ?_, ?_, ?_, ?_, ?_, ?_, ?_, ?_, ?_⟩ <;> (first | assumption | exact bcell (by assumption) (by assumption))))
          (first | (go_at_call 52; refine (symbol_any sk _ hsk.out).mono ?_; rintro e w4 ⟨rfl, hq1⟩) | (go_at_call 53; refine (refSymbol_any sk _ hsk.out).mono ?_; rintro e w5 ⟨rfl, hq2⟩) | (go_at_call 54; refine (bound_any sk _ hsk.out).mono ?_; rintro e w6 ⟨rfl, hq3⟩) | (go_at_call 55; refine (refBound_any sk _ hsk.out).mono ?_; rintro e w7 ⟨rfl, hq4⟩))
        go_wp2_with fail
        go_roundw
        case rel => exact ⟨k + 1, by omega, by go_num, below_all KW.out (below_all (below_all (below_all ⟨hq1.os, hq1.tape, hq1.output, hq1.size, hq1.block⟩ hq2) hq3) hq4)⟩
        case measure => simp [intOf]; omega
      · as_aux_lemma =>
        obtain rfl : n = k := by omega
        go_wp2_with fail
        refine (alive7 _).mono ?_
        rintro e w4 ⟨rfl, hb4⟩
        go_wp2_with fail
        go_ret
        exact ⟨rfl, below_all BW.out hb4⟩
  · have e : (decide (n ≤ 20) && decide (m ≤ 40)) = false := by
      by_cases h1 : n ≤ 20
      · rw [decide_eq_false (show ¬ m ≤ 40 from fun h2 => hl ⟨h1, h2⟩)]; simp
      · rw [decide_eq_false h1]; rfl
    rw [e] at HL
    clear hbx h hl e
    go_enter Try.func10, Try.ntmps10
    go_wp2_with fail
    refine (HL.out).mono ?_
    rintro e w1 ⟨rfl, hb1⟩
    go_wp2_with fail
    refine (alive7 _).mono ?_
    rintro e w2 ⟨rfl, hb2⟩
    go_wp2_with fail
    go_ret
    exact ⟨rfl, below_all (below_all (below_al (Below.refl _ _) _) hb1) hb2⟩

end Go.Proofs.Ythhkcckikmldcaa
