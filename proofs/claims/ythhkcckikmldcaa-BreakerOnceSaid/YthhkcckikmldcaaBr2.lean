/-
  Breaker: contracts of the document's Level, and of own. (Written by gen_br2.py, a program of this session's own.)
-/
import Derived.Test.YthhkcckikmldcaaBr1
set_option linter.unusedVariables false
set_option linter.unusedSimpArgs false
namespace Go.Proofs.Ythhkcckikmldcaa
open Go.RowKit

def lvF (x : Nat → Int) (index : Int) : Nat → Int
  | 0 => 0
  | k + 1 => if hitB x index (k + 1) then ((k + 1 : Nat) : Int) else lvF x index k

set_option maxRecDepth 100000 in
set_option maxHeartbeats 4000000 in
theorem refLevel_any (A : Option Addr) (n c : Nat) (B : Option Addr) (m d : Nat) (x : Nat → Int) (index : Int) (w : World) (hx : TailOk x) (hi : -9223372036854775808 ≤ index ∧ index ≤ 9223372036854775807) : Calls Try.prog 112 #[.agg #[.slice A n c, .slice B m d, .int .i64 (x 0), .int .i64 (x 1), .int .i64 (x 2), .int .i64 (x 3), .int .i64 (x 4), .int .i64 (x 5)], .int .i64 index] w fun e w' => e = .returned (.int .i64 (levelF x index)) ∧ Below w.heap.size w w' := by
  obtain ⟨L, hL⟩ : ∃ L, L = levelF x index := ⟨_, rfl⟩
  rw [← hL]
  have HL := Lib.hid hL
  clear hL
  by_cases c1 : index < 1
  · have E := Lib.hid (show L = 0 by rw [HL.out]; unfold levelF inB; rw [decide_eq_false (show ¬ 1 ≤ index by omega)]; rfl)
    clear hx
    go_enter Try.func112, Try.ntmps112
    go_wp2_with fail
    go_ret
    exact ⟨by rw [E.out]; rfl, below_al (Below.refl _ _) _⟩
  · by_cases c2 : 1099511627776 < index
    · have E := Lib.hid (show L = 0 by rw [HL.out]; unfold levelF inB; rw [decide_eq_false (show ¬ index ≤ 1099511627776 by omega)]; simp)
      clear hx
      go_enter Try.func112, Try.ntmps112
      go_wp2_with fail
      go_ret
      exact ⟨by rw [E.out]; rfl, below_al (Below.refl _ _) _⟩
    · have E := Lib.hid (show L = lvF x index 3 by rw [HL.out]; unfold levelF; rw [(inB_iff _ _ _).2 (by omega), if_pos rfl]; rfl)
      have b1 := tail_bounds hx 1 (by omega) (by omega)
      have b2 := tail_bounds hx 2 (by omega) (by omega)
      have b3 := tail_bounds hx 3 (by omega) (by omega)
      obtain ⟨x0a, x0b, hxf, _⟩ := hx
      have f1 := hxf 1 (by omega) (by omega)
      have f2 := hxf 2 (by omega) (by omega)
      have f3 := hxf 3 (by omega) (by omega)
      obtain ⟨b1l, b1u⟩ := b1
      obtain ⟨b2l, b2u⟩ := b2
      obtain ⟨b3l, b3u⟩ := b3
      have HTa := Lib.hid (tailAt_new w (.slice A n c) (.slice B m d) x)
      have BX := Lib.hid (Below.refl (w.alloc (.cells #[.slice A n c, .slice B m d, .int .i64 (x 0), .int .i64 (x 1), .int .i64 (x 2), .int .i64 (x 3), .int .i64 (x 4), .int .i64 (x 5)] 35)).heap.size (w.alloc (.cells #[.slice A n c, .slice B m d, .int .i64 (x 0), .int .i64 (x 1), .int .i64 (x 2), .int .i64 (x 3), .int .i64 (x 4), .int .i64 (x 5)] 35)))
      clear hxf
      go_enter Try.func112, Try.ntmps112
      go_wp2_with fail
      go_loopg [5, 6] 3 (fun gg s5 s6 wr => ∃ (k : Nat), k ≤ 3 ∧ 3 - k ≤ gg ∧ s6 = .int .i64 ((k + 1 : Nat) : Int) ∧ s5 = .int .i64 (lvF x index k) ∧ Hid (Below (w.alloc (.cells #[.slice A n c, .slice B m d, .int .i64 (x 0), .int .i64 (x 1), .int .i64 (x 2), .int .i64 (x 3), .int .i64 (x 4), .int .i64 (x 5)] 35)).heap.size (w.alloc (.cells #[.slice A n c, .slice B m d, .int .i64 (x 0), .int .i64 (x 1), .int .i64 (x 2), .int .i64 (x 3), .int .i64 (x 4), .int .i64 (x 5)] 35)) wr))
      case atStart => exact ⟨0, by omega, by omega, rfl, rfl, BX.out⟩
      case round =>
        obtain ⟨k, hk, hg, rfl, rfl, BW⟩ := hrel
        have BWw := Lib.hid (below_all (below_al (Below.refl w.heap.size w) (.cells #[.slice A n c, .slice B m d, .int .i64 (x 0), .int .i64 (x 1), .int .i64 (x 2), .int .i64 (x 3), .int .i64 (x 4), .int .i64 (x 5)] 35)) BW.out)
        have y0 := HTa.out.below BW.out 0 (by omega)
        rcases (by omega : k = 0 ∨ k = 1 ∨ k = 2 ∨ k = 3) with rfl | rfl | rfl | rfl
        · have y1 := HTa.out.below BW.out 1 (by omega)
          have hl : lvF x index 1 = if hitB x index 1 then 1 else lvF x index 0 := rfl
          cases hh : hitB x index 1
          · have hc : decide (x 0 * x 1 ≤ (x 0 - index) * 10000) = false := hh
            have HQ := Lib.hid (show lvF x index 1 = lvF x index 0 by rw [hl, hh]; rfl)
            clear hh hl
            generalize lvF x index 0 = q1 at *
            go_wp2_with fail
            go_quiet (fail)
            go_wp2_with fail
            go_roundg 2
            case measure => omega
            case rel => exact ⟨1, by omega, by omega, by first | rfl | go_num, by first | (rw [HQ.out]; done) | (rw [HQ.out]; rfl), below_drewN BW.out _⟩
          · have hc : decide (x 0 * x 1 ≤ (x 0 - index) * 10000) = true := hh
            have HQ := Lib.hid (show lvF x index 1 = 1 by rw [hl, hh]; rfl)
            clear hh hl
            generalize lvF x index 0 = q1 at *
            go_wp2_with fail
            go_quiet (fail)
            go_wp2_with fail
            go_roundg 2
            case measure => omega
            case rel => exact ⟨1, by omega, by omega, by first | rfl | go_num, by first | (rw [HQ.out]; done) | (rw [HQ.out]; rfl), below_drewN BW.out _⟩
        · have y1 := HTa.out.below BW.out 2 (by omega)
          have hl : lvF x index 2 = if hitB x index 2 then 2 else lvF x index 1 := rfl
          cases hh : hitB x index 2
          · have hc : decide (x 0 * x 2 ≤ (x 0 - index) * 10000) = false := hh
            have HQ := Lib.hid (show lvF x index 2 = lvF x index 1 by rw [hl, hh]; rfl)
            clear hh hl
            generalize lvF x index 1 = q1 at *
            go_wp2_with fail
            go_quiet (fail)
            go_wp2_with fail
            go_roundg 1
            case measure => omega
            case rel => exact ⟨2, by omega, by omega, by first | rfl | go_num, by first | (rw [HQ.out]; done) | (rw [HQ.out]; rfl), below_drewN BW.out _⟩
          · have hc : decide (x 0 * x 2 ≤ (x 0 - index) * 10000) = true := hh
            have HQ := Lib.hid (show lvF x index 2 = 2 by rw [hl, hh]; rfl)
            clear hh hl
            generalize lvF x index 1 = q1 at *
            go_wp2_with fail
            go_quiet (fail)
            go_wp2_with fail
            go_roundg 1
            case measure => omega
            case rel => exact ⟨2, by omega, by omega, by first | rfl | go_num, by first | (rw [HQ.out]; done) | (rw [HQ.out]; rfl), below_drewN BW.out _⟩
        · have y1 := HTa.out.below BW.out 3 (by omega)
          have hl : lvF x index 3 = if hitB x index 3 then 3 else lvF x index 2 := rfl
          cases hh : hitB x index 3
          · have hc : decide (x 0 * x 3 ≤ (x 0 - index) * 10000) = false := hh
            have HQ := Lib.hid (show lvF x index 3 = lvF x index 2 by rw [hl, hh]; rfl)
            clear hh hl
            generalize lvF x index 2 = q1 at *
            go_wp2_with fail
            go_quiet (fail)
            go_wp2_with fail
            go_roundg 0
            case measure => omega
            case rel => exact ⟨3, by omega, by omega, by first | rfl | go_num, by first | (rw [HQ.out]; done) | (rw [HQ.out]; rfl), below_drewN BW.out _⟩
          · have hc : decide (x 0 * x 3 ≤ (x 0 - index) * 10000) = true := hh
            have HQ := Lib.hid (show lvF x index 3 = 3 by rw [hl, hh]; rfl)
            clear hh hl
            generalize lvF x index 2 = q1 at *
            go_wp2_with fail
            go_quiet (fail)
            go_wp2_with fail
            go_roundg 0
            case measure => omega
            case rel => exact ⟨3, by omega, by omega, by first | rfl | go_num, by first | (rw [HQ.out]; done) | (rw [HQ.out]; rfl), below_drewN BW.out _⟩
        · generalize lvF x index 3 = q at E
          go_wp2_with fail
          go_ret
          exact ⟨by rw [E.out]; rfl, BWw.out⟩

set_option maxHeartbeats 1000000 in
theorem own23_any (u0 u1 sh : Bool) (t : Int) (w : World) : Calls Try.prog 62 #[.agg #[.bool u0, .bool u1, .int .i64 t, .bool sh]] w fun e w' => e = .returned (.agg #[.bool u0, .bool u1, .int .i64 t, .bool sh]) ∧ Below w.heap.size w w' := by
  go_enter Try.func62, Try.ntmps62
  go_wp2_with fail
  exact bodyPost_ret (v := .agg #[.bool u0, .bool u1, .int .i64 t, .bool sh]) (by simp [results, Try.results62, go_sem]) rfl ⟨rfl, by repeat (first | exact Below.refl _ _ | refine Below.setCell ?_ (by simp) _ | refine below_al ?_ _)⟩

end Go.Proofs.Ythhkcckikmldcaa
