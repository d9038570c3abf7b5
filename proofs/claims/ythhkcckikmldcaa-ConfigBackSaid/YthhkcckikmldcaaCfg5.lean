/-
  Config: the contract of the document's Check. (Written by gen_cfg5.py, a program of this session's own.)
-/
import Derived.Test.YthhkcckikmldcaaCfg4
set_option linter.unusedVariables false
set_option linter.unusedSimpArgs false
namespace Go.Proofs.Ythhkcckikmldcaa
open Go.RowKit

theorem in_q (x lo hi : Int) (v : Bool) (w : World) (h : inB lo hi x = v) : Calls Try.prog 98 #[.int .i64 x, .int .i64 lo, .int .i64 hi] w fun e w' => e = .returned (.bool v) ∧ w' = w :=
  (in_any x lo hi w).mono fun _ _ ⟨he, hw⟩ => ⟨by rw [he, h], hw.symm⟩
theorem ticks_q (x : Int) (v : Bool) (w : World) (h : inB 1 1099511627776 x = v) : Calls Try.prog 99 #[.int .i64 x] w fun e w' => e = .returned (.bool v) ∧ w = w' :=
  (ticks_any x w).mono fun _ _ ⟨he, hw⟩ => ⟨by rw [he, h], hw⟩
theorem tailF_ok {x : Nat → Int} : tailF x = 0 ↔ cr1 x = true ∧ cr2 x = true ∧ cr3 x = true := by
  unfold tailF
  rw [firstF_zero (by intro r hr; simp only [tailRules, List.mem_cons, List.not_mem_nil, or_false] at hr; rcases hr with rfl | rfl | rfl <;> simp)]
  simp [tailRules]
theorem tailF_no {x : Nat → Int} (h : cr1 x = false ∨ cr2 x = false ∨ cr3 x = false) : tailF x = 9 := by
  simp only [tailF, tailRules, firstF]
  rcases h with h | h | h
  · rw [h]; rfl
  · rw [h]; cases cr1 x <;> rfl
  · rw [h]; cases cr1 x <;> cases cr2 x <;> rfl
theorem rowF_ref {R : Nat → Nat → Int} {k : Nat} :
    (inB 0 1125899906842624 (R k 0) = false → rowF R k = 9) ∧ (∀ j, k = j + 1 → R k 0 ≤ R j 0 → rowF R k = 9) ∧
    (inB 0 1125899906842624 (R k 0) = true → (∀ j, k = j + 1 → R j 0 < R k 0) → inB 0 2 (R k 1) = false → rowF R k = 10) ∧
    (inB 0 1125899906842624 (R k 0) = true → (∀ j, k = j + 1 → R j 0 < R k 0) → inB 0 2 (R k 1) = true → rowF R k = 0) := by
  unfold rowF
  refine ⟨fun h => if_pos ?_, fun j hj h => if_pos ?_, fun h1 h2 h3 => ?_, fun h1 h2 h3 => ?_⟩
  · have : ¬ (0 ≤ R k 0 ∧ R k 0 ≤ 1125899906842624) := fun hh => by rw [(inB_iff _ _ _).2 hh] at h; cases h
    omega
  · subst hj; right; right; exact ⟨by omega, h⟩
  · have := (inB_iff _ _ _).1 h1
    rw [if_neg, h3, if_neg (by simp)]
    rintro (h | h | ⟨h, h'⟩)
    · omega
    · omega
    · have := h2 (k - 1) (by omega); omega
  · have := (inB_iff _ _ _).1 h1
    rw [if_neg, h3, if_pos rfl]
    rintro (h | h | ⟨h, h'⟩)
    · omega
    · omega
    · have := h2 (k - 1) (by omega); omega
theorem cr2_no {x : Nat → Int} {k : Nat} (hk : k < 3) (h : inB 1 9999 (x (k + 1)) = false ∨ (0 < k ∧ x (k + 1) ≤ x k)) : cr2 x = false := by
  unfold cr2
  rcases (by omega : k = 0 ∨ k = 1 ∨ k = 2) with rfl | rfl | rfl
  · rcases h with h | ⟨h, _⟩
    · simp [inAll, h]
    · omega
  · rcases h with h | ⟨_, h⟩
    · simp [inAll, h]
    · rw [decide_eq_false (show ¬ x 1 < x 2 by simpa using h)]; simp
  · rcases h with h | ⟨_, h⟩
    · simp [inAll, h]
    · rw [decide_eq_false (show ¬ x 2 < x 3 by simpa using h)]; simp
theorem cr2_yes {x : Nat → Int} (h : ∀ j, j < 3 → inB 1 9999 (x (j + 1)) = true ∧ (0 < j → x j < x (j + 1))) : cr2 x = true := by
  have h0 := h 0 (by omega)
  have h1 := h 1 (by omega)
  have h2 := h 2 (by omega)
  have g1 := h1.2 (by omega)
  have g2 := h2.2 (by omega)
  simp only [Nat.zero_add, Nat.reduceAdd] at h0 h1 h2 g1 g2
  unfold cr2
  simp [inAll, h0.1, h1.1, h2.1, g1, g2]

set_option maxRecDepth 100000 in
set_option maxHeartbeats 8000000 in
theorem refCheck_any (A : Option Addr) (n c : Nat) (B : Option Addr) (m d : Nat) (S R : Nat → Nat → Int) (x : Nat → Int) (w : World) (h : CfgIn w A n c B m d S R x) :
    Calls Try.prog 51 #[.agg #[.slice A n c, .slice B m d, .int .i64 (x 0), .int .i64 (x 1), .int .i64 (x 2), .int .i64 (x 3), .int .i64 (x 4), .int .i64 (x 5)]] w fun e w' => e = .returned (.tuple #[.int .i64 (chkF n S m R x), .int .i64 (chkI n S m R x)]) ∧ Below w.heap.size w w' := by
  have hnc := h.nc
  have hcm := h.cm
  have hmd := h.md
  have hdm := h.dm
  by_cases hlo : n < 1
  · have hl : inB 1 8 (n : Int) = false := by unfold inB; rw [decide_eq_false (by omega)]; rfl
    rw [(chk_long hl).1, (chk_long hl).2]
    have hlo' : (n : Int) < 1 := by omega
    clear hl h
    go_enter Try.func51, Try.ntmps51
    go_wp2_with fail
    go_ret2
    exact ⟨rfl, below_al (Below.refl _ _) _⟩
  · by_cases hhi : 8 < n
    · have hl : inB 1 8 (n : Int) = false := by unfold inB; rw [decide_eq_false (by omega : ¬ (n : Int) ≤ 8)]; simp
      rw [(chk_long hl).1, (chk_long hl).2]
      have hlo' : ¬ (n : Int) < 1 := by omega
      have hhi' : (8 : Int) < (n : Int) := by omega
      clear hl h
      go_enter Try.func51, Try.ntmps51
      go_wp2_with fail
      go_ret2
      exact ⟨rfl, below_al (Below.refl _ _) _⟩
    · have hl : inB 1 8 (n : Int) = true := (inB_iff _ _ _).2 (by omega)
      have hlo' : ¬ (n : Int) < 1 := by omega
      have hhi' : ¬ (8 : Int) < (n : Int) := by omega
      obtain ⟨b, off, rfl, hc⟩ := h.syms (by omega)
      have HS := Lib.hid hc
      have HSok := Lib.hid (fun i (hi : i < n) j (hj : j < 16) => (h.sOk i hi j hj).2)
      have HR := Lib.hid h.rows
      have HTa := Lib.hid (tailAt_new w (.slice (some ⟨b, off, none⟩) n c) (.slice B m d) x)
      have HL := Lib.hid hl
      obtain ⟨f, hf⟩ : ∃ f, f = chkF n S m R x := ⟨_, rfl⟩
      obtain ⟨q, hq⟩ : ∃ q, q = chkI n S m R x := ⟨_, rfl⟩
      rw [← hf, ← hq]
      have HF := Lib.hid hf
      have HQ := Lib.hid hq
      have hbox0 : (w.alloc (.cells #[.slice (some ⟨b, off, none⟩) n c, .slice B m d, .int .i64 (x 0), .int .i64 (x 1), .int .i64 (x 2), .int .i64 (x 3), .int .i64 (x 4), .int .i64 (x 5)] 35)).cell? ⟨w.heap.size, 0, none⟩ = some (.slice (some ⟨b, off, none⟩) n c) := cell_new_at w _ 35 0 _ rfl
      have hbox1 : (w.alloc (.cells #[.slice (some ⟨b, off, none⟩) n c, .slice B m d, .int .i64 (x 0), .int .i64 (x 1), .int .i64 (x 2), .int .i64 (x 3), .int .i64 (x 4), .int .i64 (x 5)] 35)).cell? ⟨w.heap.size, 1, none⟩ = some (.slice B m d) := cell_new_at w _ 35 1 _ rfl
      have HB0 := Lib.hid hbox0
      have HB1 := Lib.hid hbox1
      have BX := Lib.hid (Below.refl (w.alloc (.cells #[.slice (some ⟨b, off, none⟩) n c, .slice B m d, .int .i64 (x 0), .int .i64 (x 1), .int .i64 (x 2), .int .i64 (x 3), .int .i64 (x 4), .int .i64 (x 5)] 35)).heap.size (w.alloc (.cells #[.slice (some ⟨b, off, none⟩) n c, .slice B m d, .int .i64 (x 0), .int .i64 (x 1), .int .i64 (x 2), .int .i64 (x 3), .int .i64 (x 4), .int .i64 (x 5)] 35)))
      clear hl h hc hf hq hbox0 hbox1 hlo hhi
      go_enter Try.func51, Try.ntmps51
      go_wp2_with fail
      clear hlo' hhi'
      go_loopg [4] n (fun gg s4 wr => ∃ (k : Nat), k ≤ n ∧ n - k ≤ gg ∧ s4 = .int .i64 k ∧ Hid (Below (w.alloc (.cells #[.slice (some ⟨b, off, none⟩) n c, .slice B m d, .int .i64 (x 0), .int .i64 (x 1), .int .i64 (x 2), .int .i64 (x 3), .int .i64 (x 4), .int .i64 (x 5)] 35)).heap.size (w.alloc (.cells #[.slice (some ⟨b, off, none⟩) n c, .slice B m d, .int .i64 (x 0), .int .i64 (x 1), .int .i64 (x 2), .int .i64 (x 3), .int .i64 (x 4), .int .i64 (x 5)] 35)) wr) ∧ Hid (∀ j, j < k → symF (S j) = 0))
      case atStart => exact ⟨0, Nat.zero_le _, by omega, rfl, BX.out, (fun j hj => absurd hj (Nat.not_lt_zero _) : ∀ j, j < 0 → symF (S j) = 0)⟩
      case round =>
        obtain ⟨k, hk, hg, rfl, BW, I⟩ := hrel
        have BWw := Lib.hid (below_all (below_al (Below.refl w.heap.size w) (.cells #[.slice (some ⟨b, off, none⟩) n c, .slice B m d, .int .i64 (x 0), .int .i64 (x 1), .int .i64 (x 2), .int .i64 (x 3), .int .i64 (x 4), .int .i64 (x 5)] 35)) BW.out)
        have k0 := bcell BW.out HB0.out
        by_cases hlt : k < n
        · have hlt' : (k : Int) < (n : Int) := by omega
          have s0 : wr.cell? ⟨b, off + k * 16, none⟩ = some (.int .i64 (S k 0)) := bcell BWw.out (HS.out k hlt 0 (by omega))
          have s1 := bcell BWw.out (HS.out k hlt 1 (by omega))
          have s2 := bcell BWw.out (HS.out k hlt 2 (by omega))
          have s3 := bcell BWw.out (HS.out k hlt 3 (by omega))
          have s4 := bcell BWw.out (HS.out k hlt 4 (by omega))
          have s5 := bcell BWw.out (HS.out k hlt 5 (by omega))
          have s6 := bcell BWw.out (HS.out k hlt 6 (by omega))
          have s7 := bcell BWw.out (HS.out k hlt 7 (by omega))
          have s8 := bcell BWw.out (HS.out k hlt 8 (by omega))
          have s9 := bcell BWw.out (HS.out k hlt 9 (by omega))
          have s10 := bcell BWw.out (HS.out k hlt 10 (by omega))
          have s11 := bcell BWw.out (HS.out k hlt 11 (by omega))
          have s12 := bcell BWw.out (HS.out k hlt 12 (by omega))
          have s13 := bcell BWw.out (HS.out k hlt 13 (by omega))
          have s14 := bcell BWw.out (HS.out k hlt 14 (by omega))
          have s15 := bcell BWw.out (HS.out k hlt 15 (by omega))
          have HP := Lib.hid (fun (W : World) => refSymbol_any (S k) W (fun j hj => HSok.out k hlt j hj))
          have hat : symF (S k) ≠ 0 → f = symF (S k) ∧ q = k := fun hne => by
            have := chk_at (m := m) (R := R) (x := x) HL.out hlt I.out hne
            rw [HF.out, HQ.out, this.1, this.2]
            exact ⟨rfl, rfl⟩
          have hst : symF (S k) = 0 → Hid (∀ j, j < k + 1 → symF (S j) = 0) := fun hz => (fun j hj => by
            by_cases e : j = k
            · subst e; exact hz
            · exact I.out j (by omega) : ∀ j, j < k + 1 → symF (S j) = 0)
          by_cases hz : symF (S k) = 0
          · have E := hst hz
            rw [hz] at HP
            clear hat hst hz
            generalize S k = sk at *
            go_wp2_with fail
            refine (HP.out _).mono ?_
            rintro e w2 ⟨rfl, hb2⟩
            have B2 := Lib.hid (below_all BW.out hb2)
            clear hb2
            go_wp2_with fail
            go_roundg (n - (k + 1))
            case measure => omega
            case rel => exact ⟨k + 1, by omega, by omega, by go_num, B2, E⟩
          · have E := Lib.hid (hat hz)
            have hb0 : (symF (S k) != 0) = true := by simp [hz]
            clear hat hst hz
            generalize symF (S k) = fk at HP E hb0
            generalize S k = sk at *
            go_wp2_with fail
            refine (HP.out _).mono ?_
            rintro e w2 ⟨rfl, hb2⟩
            go_wp2_with fail
            go_ret2
            refine ⟨?_, below_all BWw.out hb2⟩
            rw [E.out.1, E.out.2]
            rfl
        · obtain rfl : n = k := by omega
          have k1 := bcell BW.out HB1.out
          by_cases mlo : m < 1
          · have hlm : inB 1 20 (m : Int) = false := by unfold inB; rw [decide_eq_false (by omega)]; rfl
            have E := Lib.hid (chk_tab (x := x) HL.out I.out (by rw [(tab_long (R := R) hlm).1]; omega))
            have E2 := Lib.hid (tab_long (R := R) hlm)
            have mlo' : (m : Int) < 1 := by omega
            clear hlm
            go_wp2_with fail
            go_ret2
            refine ⟨?_, BWw.out⟩
            rw [HF.out, HQ.out, E.out.1, E.out.2, E2.out.1, E2.out.2]
            rfl
          · have mlo' : ¬ (m : Int) < 1 := by omega
            by_cases mhi : 20 < m
            · have hlm : inB 1 20 (m : Int) = false := by unfold inB; rw [decide_eq_false (by omega : ¬ (m : Int) ≤ 20)]; simp
              have E := Lib.hid (chk_tab (x := x) HL.out I.out (by rw [(tab_long (R := R) hlm).1]; omega))
              have E2 := Lib.hid (tab_long (R := R) hlm)
              have mhi' : (20 : Int) < (m : Int) := by omega
              clear hlm
              go_wp2_with fail
              go_ret2
              refine ⟨?_, BWw.out⟩
              rw [HF.out, HQ.out, E.out.1, E.out.2, E2.out.1, E2.out.2]
              rfl
            · have mhi' : ¬ (20 : Int) < (m : Int) := by omega
              have HM := Lib.hid ((inB_iff 1 20 (m : Int)).2 (by omega))
              have mpos : 0 < m := by omega
              obtain ⟨b2, off2, hB, hr⟩ := HR.out mpos
              rw [hB] at k1
              have HRow := Lib.hid hr
              have HSy := Lib.hid I.out
              have hB' := Lib.hid hB
              have HB1' : Hid ((w.alloc (.cells #[.slice (some ⟨b, off, none⟩) n c, .slice B m d, .int .i64 (x 0), .int .i64 (x 1), .int .i64 (x 2), .int .i64 (x 3), .int .i64 (x 4), .int .i64 (x 5)] 35)).cell? ⟨w.heap.size, 1, none⟩ = some (.slice (some ⟨b2, off2, none⟩) m d)) := by have := HB1.out; rw [hB'.out] at this; exact (by rw [hB'.out]; exact this)
              clear hr hB I
              obtain ⟨wa, rfl⟩ : ∃ wa : World, wa = wr := ⟨_, rfl⟩
              go_wp2_with fail
              clear k1 mlo mhi mlo' mhi' hlt k0
              go_loopg [6] m (fun gg s6 wr => ∃ (k2 : Nat), k2 ≤ m ∧ m - k2 ≤ gg ∧ s6 = .int .i64 k2 ∧ Hid (Below (w.alloc (.cells #[.slice (some ⟨b, off, none⟩) n c, .slice B m d, .int .i64 (x 0), .int .i64 (x 1), .int .i64 (x 2), .int .i64 (x 3), .int .i64 (x 4), .int .i64 (x 5)] 35)).heap.size (w.alloc (.cells #[.slice (some ⟨b, off, none⟩) n c, .slice B m d, .int .i64 (x 0), .int .i64 (x 1), .int .i64 (x 2), .int .i64 (x 3), .int .i64 (x 4), .int .i64 (x 5)] 35)) wr) ∧ Hid (∀ j, j < k2 → rowF R j = 0))
              case atStart => exact ⟨0, Nat.zero_le _, by omega, rfl, BW.out, (fun j hj => absurd hj (Nat.not_lt_zero _) : ∀ j, j < 0 → rowF R j = 0)⟩
              case round =>
                obtain ⟨k2, hk2, hg2, rfl, BY, J⟩ := hrel
                have BYw := Lib.hid (below_all (below_al (Below.refl w.heap.size w) (.cells #[.slice (some ⟨b, off, none⟩) n c, .slice B m d, .int .i64 (x 0), .int .i64 (x 1), .int .i64 (x 2), .int .i64 (x 3), .int .i64 (x 4), .int .i64 (x 5)] 35)) BY.out)
                have k1 := bcell BY.out HB1'.out
                by_cases hlt : k2 < m
                · have hlt' : (k2 : Int) < (m : Int) := by omega
                  have r0 : wr.cell? ⟨b2, off2 + k2 * 2, none⟩ = some (.int .i64 (R k2 0)) := bcell BYw.out (HRow.out k2 hlt 0 (by omega))
                  have r1 := bcell BYw.out (HRow.out k2 hlt 1 (by omega))
                  have hat : rowF R k2 ≠ 0 → f = rowF R k2 ∧ q = k2 := fun hne => by
                    have h1 := tab_at HM.out hlt J.out hne
                    have h2 := chk_tab (m := m) (R := R) (x := x) HL.out HSy.out (by rw [h1.1]; exact hne)
                    rw [HF.out, HQ.out, h2.1, h2.2, h1.1, h1.2]
                    exact ⟨rfl, rfl⟩
                  have hst : rowF R k2 = 0 → Hid (∀ j, j < k2 + 1 → rowF R j = 0) := fun hz => (fun j hj => by
                    by_cases e : j = k2
                    · subst e; exact hz
                    · exact J.out j (by omega) : ∀ j, j < k2 + 1 → rowF R j = 0)
                  have HREF := Lib.hid (@rowF_ref R k2)
                  have HIN := Lib.hid (fun v (W : World) (hv : inB 0 1125899906842624 (R k2 0) = v) => in_q (R k2 0) 0 1125899906842624 v W hv)
                  cases c1 : inB 0 1125899906842624 (R k2 0)
                  · have E := Lib.hid (hat (by rw [HREF.out.1 c1]; omega))
                    rw [HREF.out.1 c1] at E
                    have HI := Lib.hid (fun W => HIN.out false W c1)
                    clear hat hst c1 HREF HIN r1
                    generalize R k2 0 = t0 at *
                    go_wp2_with fail
                    go_quiet ((go_at_call 98; exact Calls.quiet_of_same (HI.out _)))
                    go_wp2_with fail
                    go_ret2
                    refine ⟨?_, below_drewN BYw.out _⟩
                    rw [E.out.1, E.out.2]
                    rfl
                  · have HI := Lib.hid (fun W => HIN.out true W c1)
                    by_cases hz : k2 = 0
                    · subst hz
                      simp only [Nat.zero_mul, Nat.add_zero] at r0 r1
                      have HP := Lib.hid (fun v (W : World) (hv : inB 0 2 (R 0 1) = v) => in_q (R 0 1) 0 2 v W hv)
                      cases c2 : inB 0 2 (R 0 1)
                      · have e := HREF.out.2.2.1 c1 (fun j hj => by omega) c2
                        have E := Lib.hid (hat (by rw [e]; omega))
                        rw [e] at E
                        have HP2 := Lib.hid (fun W => HP.out false W c2)
                        clear hat hst c1 c2 HREF HIN e HP
                        generalize R 0 0 = t0 at *
                        generalize R 0 1 = t1 at *
                        go_wp2_with fail
                        go_quiet ((go_at_call 98; exact Calls.quiet_of_same (HI.out _)))
                        go_wp2_with fail
                        refine (HP2.out _).mono ?_
                        rintro e w2 ⟨rfl, rfl⟩
                        go_wp2_with fail
                        go_ret2
                        refine ⟨?_, below_drewN BYw.out _⟩
                        rw [E.out.1, E.out.2]
                        rfl
                      · have e := HREF.out.2.2.2 c1 (fun j hj => by omega) c2
                        have E := hst e
                        have HP2 := Lib.hid (fun W => HP.out true W c2)
                        clear hat hst c1 c2 HREF HIN e HP
                        generalize R 0 0 = t0 at *
                        generalize R 0 1 = t1 at *
                        go_wp2_with fail
                        go_quiet ((go_at_call 98; exact Calls.quiet_of_same (HI.out _)))
                        go_wp2_with fail
                        refine (HP2.out _).mono ?_
                        rintro e w2 ⟨rfl, rfl⟩
                        go_wp2_with fail
                        go_roundg (m - 1)
                        case measure => omega
                        case rel => exact ⟨1, by omega, by omega, by first | rfl | go_num, below_drewN BY.out _, E⟩
                    · obtain ⟨k3, rfl⟩ : ∃ k3, k2 = k3 + 1 := ⟨k2 - 1, by omega⟩
                      have r2 : wr.cell? ⟨b2, off2 + k3 * 2, none⟩ = some (.int .i64 (R k3 0)) := bcell BYw.out (HRow.out k3 (by omega) 0 (by omega))
                      have hk1 : decide ((0 : Int) < (k3 : Int) + 1) = true := decide_eq_true (by omega)
                      have hk2' : (0 : Int) < (k3 : Int) + 1 := by omega
                      by_cases c3 : R (k3 + 1) 0 ≤ R k3 0
                      · have e := HREF.out.2.1 k3 rfl c3
                        have E := Lib.hid (hat (by rw [e]; omega))
                        rw [e] at E
                        have c3' : decide (R (k3 + 1) 0 ≤ R k3 0) = true := decide_eq_true c3
                        clear hat hst c1 HREF HIN e
                        generalize R (k3 + 1) 0 = t0 at *
                        generalize R (k3 + 1) 1 = t1 at *
                        generalize R k3 0 = t2 at *
                        go_wp2_with fail
                        go_quiet ((go_at_call 98; exact Calls.quiet_of_same (HI.out _)))
                        go_wp2_with fail
                        go_ret2
                        refine ⟨?_, below_drewN BYw.out _⟩
                        rw [E.out.1, E.out.2]
                        rfl
                      · have c3' : decide (R (k3 + 1) 0 ≤ R k3 0) = false := decide_eq_false c3
                        have HP := Lib.hid (fun v (W : World) (hv : inB 0 2 (R (k3 + 1) 1) = v) => in_q (R (k3 + 1) 1) 0 2 v W hv)
                        cases c2 : inB 0 2 (R (k3 + 1) 1)
                        · have e := HREF.out.2.2.1 c1 (fun j hj => by
                            have hj' : j = k3 := by omega
                            rw [hj']
                            omega) c2
                          have E := Lib.hid (hat (by rw [e]; omega))
                          rw [e] at E
                          have HP2 := Lib.hid (fun W => HP.out false W c2)
                          clear hat hst c1 c2 HREF HIN e HP
                          generalize R (k3 + 1) 0 = t0 at *
                          generalize R (k3 + 1) 1 = t1 at *
                          generalize R k3 0 = t2 at *
                          go_wp2_with fail
                          go_quiet ((go_at_call 98; exact Calls.quiet_of_same (HI.out _)))
                          go_wp2_with fail
                          refine (HP2.out _).mono ?_
                          rintro e w2 ⟨rfl, rfl⟩
                          go_wp2_with fail
                          go_ret2
                          refine ⟨?_, below_drewN BYw.out _⟩
                          rw [E.out.1, E.out.2]
                          rfl
                        · have e := HREF.out.2.2.2 c1 (fun j hj => by
                            have hj' : j = k3 := by omega
                            rw [hj']
                            omega) c2
                          have E := hst e
                          have HP2 := Lib.hid (fun W => HP.out true W c2)
                          clear hat hst c1 c2 HREF HIN e HP
                          generalize R (k3 + 1) 0 = t0 at *
                          generalize R (k3 + 1) 1 = t1 at *
                          generalize R k3 0 = t2 at *
                          go_wp2_with fail
                          go_quiet ((go_at_call 98; exact Calls.quiet_of_same (HI.out _)))
                          go_wp2_with fail
                          refine (HP2.out _).mono ?_
                          rintro e w2 ⟨rfl, rfl⟩
                          go_wp2_with fail
                          go_roundg (m - (k3 + 1 + 1))
                          case measure => omega
                          case rel => exact ⟨k3 + 1 + 1, by omega, by omega, by go_num, below_drewN BY.out _, E⟩
                · obtain rfl : m = k2 := by omega
                  have HTA := Lib.hid (HTa.out.below BY.out)
                  have E0 := Lib.hid (chk_tail (x := x) HL.out HSy.out (tab_ok HM.out J.out).1)
                  have f0 := HTA.out 0 (by omega)
                  cases c1 : inB 1 1099511627776 (x 0)
                  · have E := Lib.hid (tailF_no (x := x) (Or.inl (by simp [cr1, inAll, c1])))
                    have HI := Lib.hid (fun (W : World) => in_q (x 0) 1 1099511627776 false W c1)
                    clear c1
                    go_wp2_with fail
                    refine (HI.out _).mono ?_
                    rintro e w2 ⟨rfl, rfl⟩
                    go_wp2_with fail
                    go_ret2
                    refine ⟨?_, BYw.out⟩
                    rw [HF.out, HQ.out, E0.out.1, E0.out.2, E.out]
                    rfl
                  · have C1 := Lib.hid (show cr1 x = true by simp [cr1, inAll, c1])
                    have HI := Lib.hid (fun (W : World) => in_q (x 0) 1 1099511627776 true W c1)
                    clear c1
                    go_wp2_with fail
                    refine (HI.out _).mono ?_
                    rintro e w2 ⟨rfl, rfl⟩
                    clear k1 f0 hlt
                    go_wp2_with fail
                    go_loopg [7] 3 (fun gg s7 wr => ∃ (p : Nat), p ≤ 3 ∧ 3 - p ≤ gg ∧ s7 = .int .i64 p ∧ Hid (Below (w.alloc (.cells #[.slice (some ⟨b, off, none⟩) n c, .slice B m d, .int .i64 (x 0), .int .i64 (x 1), .int .i64 (x 2), .int .i64 (x 3), .int .i64 (x 4), .int .i64 (x 5)] 35)).heap.size (w.alloc (.cells #[.slice (some ⟨b, off, none⟩) n c, .slice B m d, .int .i64 (x 0), .int .i64 (x 1), .int .i64 (x 2), .int .i64 (x 3), .int .i64 (x 4), .int .i64 (x 5)] 35)) wr) ∧ Hid (∀ j, j < p → inB 1 9999 (x (j + 1)) = true ∧ (0 < j → x j < x (j + 1))))
                    case atStart => exact ⟨0, by omega, by omega, rfl, BY.out, (fun j hj => absurd hj (Nat.not_lt_zero _) : ∀ j, j < 0 → inB 1 9999 (x (j + 1)) = true ∧ (0 < j → x j < x (j + 1)))⟩
                    case round =>
                      obtain ⟨p, hp, hg3, rfl, BZ, K3⟩ := hrel
                      have BZw := Lib.hid (below_all (below_al (Below.refl w.heap.size w) (.cells #[.slice (some ⟨b, off, none⟩) n c, .slice B m d, .int .i64 (x 0), .int .i64 (x 1), .int .i64 (x 2), .int .i64 (x 3), .int .i64 (x 4), .int .i64 (x 5)] 35)) BZ.out)
                      have HTB := Lib.hid (HTa.out.below BZ.out)
                      have hno : ∀ k, k < 3 → (inB 1 9999 (x (k + 1)) = false ∨ (0 < k ∧ x (k + 1) ≤ x k)) → f = 9 ∧ q = 0 := fun k hk hh => by
                        rw [HF.out, HQ.out, E0.out.1, E0.out.2, tailF_no (Or.inr (Or.inl (cr2_no hk hh)))]
                        exact ⟨rfl, rfl⟩
                      have HNO := Lib.hid hno
                      clear hno
                      have hcs : p = 0 ∨ p = 1 ∨ p = 2 ∨ p = 3 := by omega
                      rcases hcs with rfl | rfl | rfl | rfl
                      · have f0 := HTB.out 1 (by omega)
                        cases c1 : inB 1 9999 (x 1)
                        · have E := Lib.hid (HNO.out 0 (by omega) (Or.inl c1))
                          have HI := Lib.hid (fun (W : World) => in_q (x 1) 1 9999 false W c1)
                          clear c1
                          go_wp2_with fail
                          go_quiet ((go_at_call 98; exact Calls.quiet_of_same (HI.out _)))
                          go_wp2_with fail
                          go_ret2
                          refine ⟨?_, below_drewN BZw.out _⟩
                          rw [E.out.1, E.out.2]
                          rfl
                        · have HI := Lib.hid (fun (W : World) => in_q (x 1) 1 9999 true W c1)
                          have K4 := Lib.hid (show ∀ j, j < 0 + 1 → inB 1 9999 (x (j + 1)) = true ∧ (0 < j → x j < x (j + 1)) from fun j hj => by
                            by_cases e : j = 0
                            · subst e; exact ⟨c1, fun h0 => by omega⟩
                            · exact K3.out j (by omega))
                          clear c1
                          go_wp2_with fail
                          go_quiet ((go_at_call 98; exact Calls.quiet_of_same (HI.out _)))
                          go_wp2_with fail
                          go_roundg (3 - (0 + 1))
                          case measure => omega
                          case rel => exact ⟨0 + 1, by omega, by omega, by first | rfl | go_num, below_drewN BZ.out _, K4⟩
                      · have f0 := HTB.out 2 (by omega)
                        have f1 := HTB.out 1 (by omega)
                        cases c1 : inB 1 9999 (x 2)
                        · have E := Lib.hid (HNO.out 1 (by omega) (Or.inl c1))
                          have HI := Lib.hid (fun (W : World) => in_q (x 2) 1 9999 false W c1)
                          clear c1
                          go_wp2_with fail
                          go_quiet ((go_at_call 98; exact Calls.quiet_of_same (HI.out _)))
                          go_wp2_with fail
                          go_ret2
                          refine ⟨?_, below_drewN BZw.out _⟩
                          rw [E.out.1, E.out.2]
                          rfl
                        · have HI := Lib.hid (fun (W : World) => in_q (x 2) 1 9999 true W c1)
                          by_cases c3 : x 2 ≤ x 1
                          · have E := Lib.hid (HNO.out 1 (by omega) (Or.inr ⟨by omega, c3⟩))
                            have c3' : decide (x 2 ≤ x 1) = true := decide_eq_true c3
                            clear c1
                            go_wp2_with fail
                            go_quiet ((go_at_call 98; exact Calls.quiet_of_same (HI.out _)))
                            go_wp2_with fail
                            go_ret2
                            refine ⟨?_, below_drewN BZw.out _⟩
                            rw [E.out.1, E.out.2]
                            rfl
                          · have c3' : decide (x 2 ≤ x 1) = false := decide_eq_false c3
                            have K4 := Lib.hid (show ∀ j, j < 1 + 1 → inB 1 9999 (x (j + 1)) = true ∧ (0 < j → x j < x (j + 1)) from fun j hj => by
                              by_cases e : j = 1
                              · subst e; exact ⟨c1, fun h0 => by simpa using c3⟩
                              · exact K3.out j (by omega))
                            clear c1
                            go_wp2_with fail
                            go_quiet ((go_at_call 98; exact Calls.quiet_of_same (HI.out _)))
                            go_wp2_with fail
                            go_roundg (3 - (1 + 1))
                            case measure => omega
                            case rel => exact ⟨1 + 1, by omega, by omega, by first | rfl | go_num, below_drewN BZ.out _, K4⟩
                      · have f0 := HTB.out 3 (by omega)
                        have f1 := HTB.out 2 (by omega)
                        cases c1 : inB 1 9999 (x 3)
                        · have E := Lib.hid (HNO.out 2 (by omega) (Or.inl c1))
                          have HI := Lib.hid (fun (W : World) => in_q (x 3) 1 9999 false W c1)
                          clear c1
                          go_wp2_with fail
                          go_quiet ((go_at_call 98; exact Calls.quiet_of_same (HI.out _)))
                          go_wp2_with fail
                          go_ret2
                          refine ⟨?_, below_drewN BZw.out _⟩
                          rw [E.out.1, E.out.2]
                          rfl
                        · have HI := Lib.hid (fun (W : World) => in_q (x 3) 1 9999 true W c1)
                          by_cases c3 : x 3 ≤ x 2
                          · have E := Lib.hid (HNO.out 2 (by omega) (Or.inr ⟨by omega, c3⟩))
                            have c3' : decide (x 3 ≤ x 2) = true := decide_eq_true c3
                            clear c1
                            go_wp2_with fail
                            go_quiet ((go_at_call 98; exact Calls.quiet_of_same (HI.out _)))
                            go_wp2_with fail
                            go_ret2
                            refine ⟨?_, below_drewN BZw.out _⟩
                            rw [E.out.1, E.out.2]
                            rfl
                          · have c3' : decide (x 3 ≤ x 2) = false := decide_eq_false c3
                            have K4 := Lib.hid (show ∀ j, j < 2 + 1 → inB 1 9999 (x (j + 1)) = true ∧ (0 < j → x j < x (j + 1)) from fun j hj => by
                              by_cases e : j = 2
                              · subst e; exact ⟨c1, fun h0 => by simpa using c3⟩
                              · exact K3.out j (by omega))
                            clear c1
                            go_wp2_with fail
                            go_quiet ((go_at_call 98; exact Calls.quiet_of_same (HI.out _)))
                            go_wp2_with fail
                            go_roundg (3 - (2 + 1))
                            case measure => omega
                            case rel => exact ⟨2 + 1, by omega, by omega, by first | rfl | go_num, below_drewN BZ.out _, K4⟩
                      · have C2 := Lib.hid (cr2_yes K3.out)
                        have f4 := HTB.out 4 (by omega)
                        have f5 := HTB.out 5 (by omega)
                        cases c4 : inB 1 1099511627776 (x 4)
                        · have E := Lib.hid (tailF_no (x := x) (Or.inr (Or.inr (by simp [cr3, inAll, c4]))))
                          have H4 := Lib.hid (fun (W : World) => ticks_q (x 4) false W c4)
                          clear c4
                          go_wp2_with fail
                          refine (H4.out _).mono ?_
                          rintro e w2 ⟨rfl, rfl⟩
                          go_wp2_with fail
                          go_ret2
                          refine ⟨?_, BZw.out⟩
                          rw [HF.out, HQ.out, E0.out.1, E0.out.2, E.out]
                          rfl
                        · have H4 := Lib.hid (fun (W : World) => ticks_q (x 4) true W c4)
                          cases c5 : inB 1 1099511627776 (x 5)
                          · have E := Lib.hid (tailF_no (x := x) (Or.inr (Or.inr (by simp [cr3, inAll, c5]))))
                            have H5 := Lib.hid (fun (W : World) => ticks_q (x 5) false W c5)
                            clear c4 c5
                            go_wp2_with fail
                            refine (H4.out _).mono ?_
                            rintro e w2 ⟨rfl, rfl⟩
                            go_wp2_with fail
                            refine (H5.out _).mono ?_
                            rintro e w2 ⟨rfl, rfl⟩
                            go_wp2_with fail
                            go_ret2
                            refine ⟨?_, BZw.out⟩
                            rw [HF.out, HQ.out, E0.out.1, E0.out.2, E.out]
                            rfl
                          · have E := Lib.hid ((tailF_ok (x := x)).2 ⟨C1.out, C2.out, by simp [cr3, inAll, c4, c5]⟩)
                            have H5 := Lib.hid (fun (W : World) => ticks_q (x 5) true W c5)
                            clear c4 c5
                            go_wp2_with fail
                            refine (H4.out _).mono ?_
                            rintro e w2 ⟨rfl, rfl⟩
                            go_wp2_with fail
                            refine (H5.out _).mono ?_
                            rintro e w2 ⟨rfl, rfl⟩
                            go_wp2_with fail
                            go_ret2
                            refine ⟨?_, BZw.out⟩
                            rw [HF.out, HQ.out, E0.out.1, E0.out.2, E.out]
                            rfl

end Go.Proofs.Ythhkcckikmldcaa
