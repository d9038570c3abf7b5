/-
  Breaker: contracts of Level, Span, Halted, halt, Index, and of the document's. (Written by gen_br1.py, a program of this session's own.)
-/
import Derived.Test.YthhkcckikmldcaaCfg7
import Derived.Test.YthhkcckikmldcaaPa2
import Derived.WalkMore
import Derived.ScopeJumps
import Derived.BigQuiet
set_option linter.unusedVariables false
set_option linter.unusedSimpArgs false
namespace Go.Proofs.Ythhkcckikmldcaa
open Go.RowKit

def haltedB (t : Int) (sh : Bool) (tick : Int) : Bool := !sh && decide (tick < t)
set_option maxHeartbeats 1000000 in
theorem halted_any (u0 u1 sh : Bool) (t tick : Int) (w : World) : Calls Try.prog 63 #[.agg #[.bool u0, .bool u1, .int .i64 t, .bool sh], .int .i64 tick] w fun e w' => e = .returned (.bool (haltedB t sh tick)) ∧ Below w.heap.size w w' := by
  unfold haltedB
  cases sh
  · go_enter Try.func63, Try.ntmps63
    go_wp2
    go_ret
    exact ⟨ret_bool (by simp), below_al (Below.refl _ _) _⟩
  · go_enter Try.func63, Try.ntmps63
    go_wp2
    go_ret
    exact ⟨rfl, below_al (Below.refl _ _) _⟩
set_option maxHeartbeats 1000000 in
theorem refHalted_any (u0 u1 sh : Bool) (t tick : Int) (w : World) : Calls Try.prog 113 #[.agg #[.bool u0, .bool u1, .int .i64 t, .bool sh], .int .i64 tick] w fun e w' => e = .returned (.bool (haltedB t sh tick)) ∧ Below w.heap.size w w' := by
  unfold haltedB
  cases sh
  · go_enter Try.func113, Try.ntmps113
    go_wp2
    go_ret
    exact ⟨ret_bool (by simp), below_al (Below.refl _ _) _⟩
  · go_enter Try.func113, Try.ntmps113
    go_wp2
    go_ret
    exact ⟨rfl, below_al (Below.refl _ _) _⟩

def spanF (x : Nat → Int) (level : Int) : Int := if level = 1 then x 4 else if level = 2 then x 5 else 0
set_option maxHeartbeats 1000000 in
theorem span1_any (A : Option Addr) (n c : Nat) (B : Option Addr) (m d : Nat) (x : Nat → Int) (w : World) : Calls Try.prog 64 #[.agg #[.slice A n c, .slice B m d, .int .i64 (x 0), .int .i64 (x 1), .int .i64 (x 2), .int .i64 (x 3), .int .i64 (x 4), .int .i64 (x 5)], .int .i64 1] w fun e w' => e = .returned (.int .i64 (x 4)) ∧ Below w.heap.size w w' := by
  go_enter Try.func64, Try.ntmps64
  go_wp2
  go_ret
  exact ⟨rfl, below_al (Below.refl _ _) _⟩
set_option maxHeartbeats 1000000 in
theorem span2_any (A : Option Addr) (n c : Nat) (B : Option Addr) (m d : Nat) (x : Nat → Int) (w : World) : Calls Try.prog 64 #[.agg #[.slice A n c, .slice B m d, .int .i64 (x 0), .int .i64 (x 1), .int .i64 (x 2), .int .i64 (x 3), .int .i64 (x 4), .int .i64 (x 5)], .int .i64 2] w fun e w' => e = .returned (.int .i64 (x 5)) ∧ Below w.heap.size w w' := by
  go_enter Try.func64, Try.ntmps64
  go_wp2
  go_ret
  exact ⟨rfl, below_al (Below.refl _ _) _⟩
set_option maxHeartbeats 1000000 in
theorem refSpan1_any (A : Option Addr) (n c : Nat) (B : Option Addr) (m d : Nat) (x : Nat → Int) (w : World) : Calls Try.prog 114 #[.agg #[.slice A n c, .slice B m d, .int .i64 (x 0), .int .i64 (x 1), .int .i64 (x 2), .int .i64 (x 3), .int .i64 (x 4), .int .i64 (x 5)], .int .i64 1] w fun e w' => e = .returned (.int .i64 (x 4)) ∧ Below w.heap.size w w' := by
  go_enter Try.func114, Try.ntmps114
  go_wp2
  go_ret
  exact ⟨rfl, below_al (Below.refl _ _) _⟩
set_option maxHeartbeats 1000000 in
theorem refSpan2_any (A : Option Addr) (n c : Nat) (B : Option Addr) (m d : Nat) (x : Nat → Int) (w : World) : Calls Try.prog 114 #[.agg #[.slice A n c, .slice B m d, .int .i64 (x 0), .int .i64 (x 1), .int .i64 (x 2), .int .i64 (x 3), .int .i64 (x 4), .int .i64 (x 5)], .int .i64 2] w fun e w' => e = .returned (.int .i64 (x 5)) ∧ Below w.heap.size w w' := by
  go_enter Try.func114, Try.ntmps114
  go_wp2
  go_ret
  exact ⟨rfl, below_al (Below.refl _ _) _⟩

/-! ### Level -/
def hitB (x : Nat → Int) (index : Int) (k : Nat) : Bool := decide (x 0 * x k ≤ (x 0 - index) * 10000)
def levelF (x : Nat → Int) (index : Int) : Int := if inB 1 1099511627776 index then (if hitB x index 3 then 3 else if hitB x index 2 then 2 else if hitB x index 1 then 1 else 0) else 0
/-- What a right configuration says of what Level reckons with. -/
def TailOk (x : Nat → Int) : Prop := 1 ≤ x 0 ∧ x 0 ≤ 1099511627776 ∧ (∀ j, 1 ≤ j → j ≤ 3 → 1 ≤ x j ∧ x j ≤ 9999) ∧ x 1 < x 2 ∧ x 2 < x 3 ∧ 1 ≤ x 4 ∧ x 4 ≤ 1099511627776 ∧ 1 ≤ x 5 ∧ x 5 ≤ 1099511627776
theorem tail_bounds {x : Nat → Int} (h : TailOk x) (j : Nat) (h1 : 1 ≤ j) (h3 : j ≤ 3) : 0 ≤ x 0 * x j ∧ x 0 * x j ≤ 1099511627776 * 9999 := by
  obtain ⟨a, b, hf, _⟩ := h
  have := hf j h1 h3
  exact ⟨Int.mul_nonneg (by omega) (by omega), Int.le_trans (Int.mul_le_mul_of_nonneg_right b (by omega)) (Int.mul_le_mul_of_nonneg_left this.2 (by omega))⟩

set_option maxRecDepth 100000 in
set_option maxHeartbeats 4000000 in
theorem level_any (A : Option Addr) (n c : Nat) (B : Option Addr) (m d : Nat) (x : Nat → Int) (index : Int) (w : World) (hx : TailOk x) (hi : -9223372036854775808 ≤ index ∧ index ≤ 9223372036854775807) : Calls Try.prog 65 #[.agg #[.slice A n c, .slice B m d, .int .i64 (x 0), .int .i64 (x 1), .int .i64 (x 2), .int .i64 (x 3), .int .i64 (x 4), .int .i64 (x 5)], .int .i64 index] w fun e w' => e = .returned (.int .i64 (levelF x index)) ∧ Below w.heap.size w w' := by
  obtain ⟨L, hL⟩ : ∃ L, L = levelF x index := ⟨_, rfl⟩
  rw [← hL]
  have HL := Lib.hid hL
  clear hL
  by_cases c1 : index < 1
  · have E := Lib.hid (show L = 0 by rw [HL.out]; unfold levelF inB; rw [decide_eq_false (show ¬ 1 ≤ index by omega)]; rfl)
    clear hx
    go_enter Try.func65, Try.ntmps65
    go_wp2_with fail
    go_step3
    go_wp2_with fail
    rw [Exit.noGoto_ret]
    go_ret
    exact ⟨by rw [E.out]; rfl, below_al (Below.refl _ _) _⟩
  · by_cases c2 : 1099511627776 < index
    · have E := Lib.hid (show L = 0 by rw [HL.out]; unfold levelF inB; rw [decide_eq_false (show ¬ index ≤ 1099511627776 by omega)]; simp)
      clear hx
      go_enter Try.func65, Try.ntmps65
      go_wp2_with fail
      go_step3
      go_wp2_with fail
      rw [Exit.noGoto_ret]
      go_ret
      exact ⟨by rw [E.out]; rfl, below_al (Below.refl _ _) _⟩
    · have E := Lib.hid (show L = if hitB x index 3 then 3 else if hitB x index 2 then 2 else if hitB x index 1 then 1 else 0 by rw [HL.out]; unfold levelF; rw [(inB_iff _ _ _).2 (by omega), if_pos rfl])
      have b1 := tail_bounds hx 1 (by omega) (by omega)
      have b2 := tail_bounds hx 2 (by omega) (by omega)
      have b3 := tail_bounds hx 3 (by omega) (by omega)
      obtain ⟨x0a, x0b, hxf, _⟩ := hx
      have f1 := hxf 1 (by omega) (by omega)
      have f2 := hxf 2 (by omega) (by omega)
      have f3 := hxf 3 (by omega) (by omega)
      obtain ⟨b1l, b1u⟩ := b1
      obtain ⟨b2l, b2u⟩ := b2
      obtain ⟨b3l, b3u⟩ := b3
      have HTa := Lib.hid (tailAt_new w (.slice A n c) (.slice B m d) x)
      have BX := Lib.hid (Below.refl (w.alloc (.cells #[.slice A n c, .slice B m d, .int .i64 (x 0), .int .i64 (x 1), .int .i64 (x 2), .int .i64 (x 3), .int .i64 (x 4), .int .i64 (x 5)] 35)).heap.size (w.alloc (.cells #[.slice A n c, .slice B m d, .int .i64 (x 0), .int .i64 (x 1), .int .i64 (x 2), .int .i64 (x 3), .int .i64 (x 4), .int .i64 (x 5)] 35)))
      clear hxf
      go_enter Try.func65, Try.ntmps65
      go_wp2_with fail
      go_step3
      go_wp2_with fail
      go_step3
      go_wp2_with fail
      go_loopg [6] 3 (fun gg s6 wr => ∃ (k : Nat), k ≤ 3 ∧ k ≤ gg ∧ s6 = .int .i64 k ∧ Hid (Below (w.alloc (.cells #[.slice A n c, .slice B m d, .int .i64 (x 0), .int .i64 (x 1), .int .i64 (x 2), .int .i64 (x 3), .int .i64 (x 4), .int .i64 (x 5)] 35)).heap.size (w.alloc (.cells #[.slice A n c, .slice B m d, .int .i64 (x 0), .int .i64 (x 1), .int .i64 (x 2), .int .i64 (x 3), .int .i64 (x 4), .int .i64 (x 5)] 35)) wr) ∧ Hid (∀ j, k < j → j ≤ 3 → hitB x index j = false))
      case atStart => exact ⟨3, by omega, by omega, rfl, BX.out, (fun j h1 h2 => absurd h1 (by omega) : ∀ j, 3 < j → j ≤ 3 → hitB x index j = false)⟩
      case round =>
        obtain ⟨k, hk, hg, rfl, BW, I⟩ := hrel
        have BWw := Lib.hid (below_all (below_al (Below.refl w.heap.size w) (.cells #[.slice A n c, .slice B m d, .int .i64 (x 0), .int .i64 (x 1), .int .i64 (x 2), .int .i64 (x 3), .int .i64 (x 4), .int .i64 (x 5)] 35)) BW.out)
        have y0 := HTa.out.below BW.out 0 (by omega)
        rcases (by omega : k = 3 ∨ k = 2 ∨ k = 1 ∨ k = 0) with rfl | rfl | rfl | rfl
        · have y1 := HTa.out.below BW.out 3 (by omega)
          cases hh : hitB x index 3
          · have hc : ¬ x 0 * x 3 ≤ (x 0 - index) * 10000 := of_decide_eq_false hh
            have HI := Lib.hid (fun j (h1 : 2 < j) (h2 : j ≤ 3) => (by
              rcases (by omega : j = 3 ∨ 3 < j) with rfl | h3
              · exact hh
              · exact I.out j h3 h2 : hitB x index j = false))
            clear hh
            go_wp2_with fail
            go_quiet (fail)
            go_wp2_with fail
            go_roundg 2
            case measure => omega
            case rel => exact ⟨2, by omega, by omega, by first | rfl | go_num, below_drewN BW.out _, HI⟩
          · have hc : x 0 * x 3 ≤ (x 0 - index) * 10000 := of_decide_eq_true hh
            have E := Lib.hid (show L = 3 by rw [E.out, hh]; rfl)
            clear hh
            go_wp2_with fail
            go_quiet (fail)
            go_wp2_with fail
            rw [Exit.noGoto_ret]
            go_ret
            exact ⟨by rw [E.out]; rfl, below_drewN BWw.out _⟩
        · have y1 := HTa.out.below BW.out 2 (by omega)
          cases hh : hitB x index 2
          · have hc : ¬ x 0 * x 2 ≤ (x 0 - index) * 10000 := of_decide_eq_false hh
            have HI := Lib.hid (fun j (h1 : 1 < j) (h2 : j ≤ 3) => (by
              rcases (by omega : j = 2 ∨ 2 < j) with rfl | h3
              · exact hh
              · exact I.out j h3 h2 : hitB x index j = false))
            clear hh
            go_wp2_with fail
            go_quiet (fail)
            go_wp2_with fail
            go_roundg 1
            case measure => omega
            case rel => exact ⟨1, by omega, by omega, by first | rfl | go_num, below_drewN BW.out _, HI⟩
          · have hc : x 0 * x 2 ≤ (x 0 - index) * 10000 := of_decide_eq_true hh
            have E := Lib.hid (show L = 2 by rw [E.out, I.out 3 (by omega) (by omega), hh]; rfl)
            clear hh
            go_wp2_with fail
            go_quiet (fail)
            go_wp2_with fail
            rw [Exit.noGoto_ret]
            go_ret
            exact ⟨by rw [E.out]; rfl, below_drewN BWw.out _⟩
        · have y1 := HTa.out.below BW.out 1 (by omega)
          cases hh : hitB x index 1
          · have hc : ¬ x 0 * x 1 ≤ (x 0 - index) * 10000 := of_decide_eq_false hh
            have HI := Lib.hid (fun j (h1 : 0 < j) (h2 : j ≤ 3) => (by
              rcases (by omega : j = 1 ∨ 1 < j) with rfl | h3
              · exact hh
              · exact I.out j h3 h2 : hitB x index j = false))
            clear hh
            go_wp2_with fail
            go_quiet (fail)
            go_wp2_with fail
            go_roundg 0
            case measure => omega
            case rel => exact ⟨0, by omega, by omega, by first | rfl | go_num, below_drewN BW.out _, HI⟩
          · have hc : x 0 * x 1 ≤ (x 0 - index) * 10000 := of_decide_eq_true hh
            have E := Lib.hid (show L = 1 by rw [E.out, I.out 3 (by omega) (by omega), I.out 2 (by omega) (by omega), hh]; rfl)
            clear hh
            go_wp2_with fail
            go_quiet (fail)
            go_wp2_with fail
            rw [Exit.noGoto_ret]
            go_ret
            exact ⟨by rw [E.out]; rfl, below_drewN BWw.out _⟩
        · have E := Lib.hid (show L = 0 by rw [E.out, I.out 3 (by omega) (by omega), I.out 2 (by omega) (by omega), I.out 1 (by omega) (by omega)]; rfl)
          go_wp2_with fail
          rw [Exit.noGoto_ret]
          go_ret
          exact ⟨by rw [E.out]; rfl, BWw.out⟩

end Go.Proofs.Ythhkcckikmldcaa
