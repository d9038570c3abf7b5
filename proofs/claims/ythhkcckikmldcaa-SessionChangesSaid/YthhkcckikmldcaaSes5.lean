/-
  Session: the laws' light and alive; the walks of SessionAts, SessionStays, SessionLasts.
-/
import Derived.Test.YthhkcckikmldcaaSes4
set_option linter.unusedVariables false
set_option linter.unusedSimpArgs false
namespace Go.Proofs.Ythhkcckikmldcaa
open Go.RowKit

def ltB (n : Nat) (T : Nat → Int) (tick : Int) : Bool := decide (n ≤ 60) && (rsB T n && decide (0 ≤ tick))

set_option maxHeartbeats 1000000 in
theorem light_any (A : Option Addr) (n c : Nat) (T F : Nat → Int) (tick : Int) (w : World) (h : Rows2 w A n T F) :
    Calls Try.prog 17 #[.slice A n c, .int .i64 tick] w fun e w' => e = .returned (.bool (ltB n T tick)) ∧ Below w.heap.size w w' := by
  have HC := Lib.hid (rising_any A n c T F w h)
  have hn := h.1
  clear h
  by_cases h1 : n ≤ 60
  · have h1' : (n : Int) ≤ 60 := by omega
    cases hr : rsB T n
    · have E := Lib.hid (show ltB n T tick = false by unfold ltB; rw [hr]; simp)
      rw [hr] at HC
      rw [E.out]
      clear hr
      go_enter Try.func17, Try.ntmps17
      go_wp2_with (go_at_call 67; refine (HC.out).mono ?_; rintro e w1 ⟨rfl, hb1⟩)
      go_ret
      exact ⟨rfl, hb1⟩
    · have E := Lib.hid (show ltB n T tick = decide (0 ≤ tick) by unfold ltB; rw [hr, decide_eq_true h1]; simp)
      rw [hr] at HC
      rw [E.out]
      clear hr
      go_enter Try.func17, Try.ntmps17
      go_wp2_with (go_at_call 67; refine (HC.out).mono ?_; rintro e w1 ⟨rfl, hb1⟩)
      go_ret
      exact ⟨rfl, hb1⟩
  · have E := Lib.hid (show ltB n T tick = false by unfold ltB; rw [decide_eq_false h1]; rfl)
    have h1' : ¬ (n : Int) ≤ 60 := by omega
    rw [E.out]
    go_enter Try.func17, Try.ntmps17
    go_wp2_with fail
    go_ret
    exact ⟨rfl, Below.refl _ _⟩

def Ta (i : Nat) : Int := if i = 0 then 5 else 10
def Fa (i : Nat) : Int := if i = 0 then 1 else 2
theorem aliveRows (w : World) (B : Nat) (h : w.heap[B]? = some (.cells #[.int .i64 5, .int .i64 1, .int .i64 10, .int .i64 2] 53 (0, 0))) : Rows2 w (some ⟨B, 0, none⟩) 2 Ta Fa := by
  have hc : ∀ i v, (#[.int .i64 5, .int .i64 1, .int .i64 10, .int .i64 2] : Array Value)[i]? = some v → w.cell? ⟨B, i, none⟩ = some v := fun i v hv => by
    unfold World.cell?
    simp [h, hv]
  refine ⟨by omega, fun _ => ⟨B, 0, rfl, fun i hi => ?_, fun i hi => ?_⟩⟩
  · rcases (by omega : i = 0 ∨ i = 1) with rfl | rfl <;> exact hc _ _ rfl
  · rcases (by omega : i = 0 ∨ i = 1) with rfl | rfl <;> exact hc _ _ rfl
theorem aliveRise : Rise 2 Ta := by
  intro i j hij hj
  obtain rfl : i = 0 := by omega
  obtain rfl : j = 1 := by omega
  decide

set_option maxHeartbeats 1000000 in
theorem alive8 (w : World) : Calls Try.prog 18 #[] w fun e w' => e = .returned (.bool true) ∧ Below w.heap.size w w' := by
  have hrow : ∀ W, Below (w.alloc (.cells #[.int .i64 5, .int .i64 1, .int .i64 10, .int .i64 2] 53)).heap.size (w.alloc (.cells #[.int .i64 5, .int .i64 1, .int .i64 10, .int .i64 2] 53)) W → Rows2 W (some ⟨w.heap.size, 0, none⟩) 2 Ta Fa := fun W hb =>
    (aliveRows _ w.heap.size (heap_new w _)).below hb
  have HR := Lib.hid hrow
  clear hrow
  have HN := fun W hb => next_any (some ⟨w.heap.size, 0, none⟩) 2 2 Ta Fa 7 W (HR.out W hb) aliveRise
  rw [show nxT 2 Ta 7 = 10 from by decide, show nxB 2 Ta 7 = true from by decide] at HN
  have H1 := fun W hb => at_any (some ⟨w.heap.size, 0, none⟩) 2 2 Ta Fa 4 W (HR.out W hb) aliveRise
  rw [show phS 2 Ta Fa 4 = 0 from by decide] at H1
  have H2 := fun W hb => at_any (some ⟨w.heap.size, 0, none⟩) 2 2 Ta Fa 7 W (HR.out W hb) aliveRise
  rw [show phS 2 Ta Fa 7 = 1 from by decide] at H2
  have H3 := fun W hb => rest_any (some ⟨w.heap.size, 0, none⟩) 2 2 Ta Fa 12 W (by omega) (HR.out W hb) aliveRise (by omega) (fun i hi => by unfold Ta; split <;> omega)
  rw [show restV 2 Ta Fa 12 = -1 from by decide] at H3
  have HN' := Lib.hid HN
  have H1' := Lib.hid H1
  have H2' := Lib.hid H2
  have H3' := Lib.hid H3
  clear HN H1 H2 H3
  go_enter Try.func18, Try.ntmps18
  go_wp2_with fail
  refine (HN'.out _ (Below.refl _ _)).mono ?_
  rintro e w1 ⟨rfl, hb1⟩
  go_wp2_with fail
  refine (H1'.out _ hb1).mono ?_
  rintro e w2 ⟨rfl, hb2⟩
  have B2 := below_all hb1 hb2
  go_wp2_with fail
  refine (H2'.out _ B2).mono ?_
  rintro e w3 ⟨rfl, hb3⟩
  have B3 := below_all B2 hb3
  go_wp2_with fail
  refine (H3'.out _ B3).mono ?_
  rintro e w4 ⟨rfl, hb4⟩
  have B4 := below_all B3 hb4
  go_wp2_with fail
  go_ret
  exact ⟨rfl, below_all ((Below.refl _ _).alloc (Nat.le_refl _) _) B4⟩

set_option maxHeartbeats 1000000 in
theorem sessionAts_any (A : Option Addr) (n c : Nat) (T F : Nat → Int) (tick : Int) (w : World) (h : Rows2 w A n T F) :
    Calls Try.prog 3 #[.slice A n c, .int .i64 tick] w fun e w' => e = .returned (.bool true) ∧ Below w.heap.size w w' := by
  have HL := Lib.hid (light_any A n c T F tick w h)
  cases hl : ltB n T tick
  · rw [hl] at HL
    clear hl h
    go_enter Try.func3, Try.ntmps3
    go_wp2_with fail
    refine (HL.out).mono ?_
    rintro e w1 ⟨rfl, hb1⟩
    go_wp2_with fail
    refine (alive8 _).mono ?_
    rintro e w2 ⟨rfl, hb2⟩
    go_wp2_with fail
    go_ret
    exact ⟨rfl, below_all hb1 hb2⟩
  · rw [hl] at HL
    have hr : Rise n T := rsB_rise T n (by unfold ltB at hl; simp only [Bool.and_eq_true] at hl; exact hl.2.1)
    have HN := Lib.hid (fun W (hb : Below w.heap.size w W) => next_any A n c T F tick W (h.below hb) hr)
    have HM := Lib.hid (fun W (hb : Below w.heap.size w W) => refNext_any A n c T F tick W (h.below hb))
    have HA := Lib.hid (fun W (hb : Below w.heap.size w W) => at_any A n c T F tick W (h.below hb) hr)
    have HB := Lib.hid (fun W (hb : Below w.heap.size w W) => refAt_any A n c T F tick W (h.below hb) hr)
    clear hl h hr
    go_enter Try.func3, Try.ntmps3
    go_wp2_with fail
    refine (HL.out).mono ?_
    rintro e w1 ⟨rfl, B1⟩
    go_wp2_with fail
    refine (HN.out _ B1).mono ?_
    rintro e w2 ⟨rfl, b2⟩
    have B2 := below_all B1 b2
    go_wp2_with fail
    refine (HM.out _ B2).mono ?_
    rintro e w3 ⟨rfl, b3⟩
    have B3 := below_all B2 b3
    go_wp2_with fail
    refine (HA.out _ B3).mono ?_
    rintro e w4 ⟨rfl, b4⟩
    have B4 := below_all B3 b4
    go_wp2_with fail
    refine (HB.out _ B4).mono ?_
    rintro e w5 ⟨rfl, b5⟩
    have B5 := below_all B4 b5
    go_wp2_with fail
    refine (alive8 _).mono ?_
    rintro e w6 ⟨rfl, b6⟩
    go_wp2_with fail
    go_ret
    exact ⟨rfl, below_all B5 b6⟩
end Go.Proofs.Ythhkcckikmldcaa
