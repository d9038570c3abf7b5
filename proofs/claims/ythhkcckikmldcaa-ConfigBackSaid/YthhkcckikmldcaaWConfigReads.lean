/-
  The walk of ConfigReads.
-/
import Derived.Test.YthhkcckikmldcaaRd7
import Derived.Test.YthhkcckikmldcaaEnc10
set_option linter.unusedVariables false
set_option linter.unusedSimpArgs false
namespace Go.Proofs.Ythhkcckikmldcaa
open Go.RowKit

theorem rd_small {l : List UInt8} {n m : Nat} {S R : Nat → Nat → Int} {x : Nat → Int} (h : RdOut l n m S R x) : n ≤ 8 ∧ m ≤ 20 := by
  by_cases hz : rdF l = 0
  · obtain ⟨h1, h2, _⟩ := h.2 hz
    obtain ⟨h3, h4, _⟩ := oE_fault_of hz
    omega
  · obtain ⟨h1, h2, _⟩ := h.1 hz
    omega

set_option maxRecDepth 100000 in
set_option maxHeartbeats 8000000 in
theorem walkConfigReads (w : World) (A : Option Addr) (l : List UInt8) (c : Nat) (hlc : l.length ≤ c) (hmx : c ≤ 9223372036854775807) (hc0 : A = none → c = 0) (h : RB w A l) :
    Calls Try.prog 6 #[.slice A l.length c] w fun e w' => e = .returned (.bool true) ∧ Below w.heap.size w w' := by
  by_cases hbig : 1500 < l.length
  · have hb' : (1500 : Int) < (l.length : Int) := by omega
    clear h hbig hlc
    go_enter Try.func6, Try.ntmps6
    go_wp2_with fail
    refine (alive7 _).mono ?_
    rintro e w9 ⟨rfl, hb9⟩
    go_wp2_with fail
    go_ret
    exact ⟨rfl, hb9⟩
  · have hb' : ¬ (1500 : Int) < (l.length : Int) := by omega
    have HR := Lib.hid (gread_any A l c hc0 (by omega) w h)
    have HD := Lib.hid (fun W (hb : Below w.heap.size w W) => dread_any A l c (by omega) hlc W (h.below hb))
    clear h hbig hlc hc0
    go_enter Try.func6, Try.ntmps6
    go_wp2_with fail
    refine HR.out.mono ?_
    rintro e w1 ⟨A1, n1, c1, B1, m1, d1, S1, R1, x1, rfl, k1, o1, b1⟩
    have HB1 := Lib.hid b1
    have HK1 := Lib.hid k1
    have HO1 := Lib.hid o1
    clear k1 o1 b1 HR
    go_wp2_with fail
    refine (HD.out _ (HB1.out.alloc (HB1.out.size) _)).mono ?_
    rintro e w2 ⟨A2, n2, c2, B2, m2, d2, S2, R2, x2, rfl, k2, o2, b2⟩
    have b12 : Below w1.heap.size w1 w2 := ((Below.refl w1.heap.size w1).alloc (Nat.le_refl _) (.cells #[.slice A1 n1 c1, .slice B1 m1 d1, .int .i64 (x1 0), .int .i64 (x1 1), .int .i64 (x1 2), .int .i64 (x1 3), .int .i64 (x1 4), .int .i64 (x1 5)] 35)).trans (b2.mono (by simp))
    have HB2 := Lib.hid (HB1.out.trans (b12.mono HB1.out.size))
    have K1 := Lib.hid (alloc_old (.cells #[.slice A2 n2 c2, .slice B2 m2 d2, .int .i64 (x2 0), .int .i64 (x2 1), .int .i64 (x2 2), .int .i64 (x2 3), .int .i64 (x2 4), .int .i64 (x2 5)] 35) (block_keep b2 (by simp) (heap_new w1 (.cells #[.slice A1 n1 c1, .slice B1 m1 d1, .int .i64 (x1 0), .int .i64 (x1 1), .int .i64 (x1 2), .int .i64 (x1 3), .int .i64 (x1 4), .int .i64 (x1 5)] 35))))
    have K2 := Lib.hid (heap_new w2 (.cells #[.slice A2 n2 c2, .slice B2 m2 d2, .int .i64 (x2 0), .int .i64 (x2 1), .int .i64 (x2 2), .int .i64 (x2 3), .int .i64 (x2 4), .int .i64 (x2 5)] 35))
    have e12 := HK1.out.below b12
    have a2 : Below w2.heap.size w2 (w2.alloc (.cells #[.slice A2 n2 c2, .slice B2 m2 d2, .int .i64 (x2 0), .int .i64 (x2 1), .int .i64 (x2 2), .int .i64 (x2 3), .int .i64 (x2 4), .int .i64 (x2 5)] 35)) := (Below.refl w2.heap.size w2).alloc (Nat.le_refl _) _
    have s1 := rd_small HO1.out
    have s2 := rd_small o2
    have HSM := Lib.hid (refSame_any A1 n1 c1 B1 m1 d1 S1 R1 x1 A2 n2 c2 B2 m2 d2 S2 R2 x2 _ (e12.below a2).syms (e12.below a2).rows (k2.below a2).syms (k2.below a2).rows (by omega) (by omega) (by omega) (by omega))
    rw [rd_same HO1.out o2] at HSM
    clear b12 k2 o2 b2 e12 a2 s1 s2 HO1 HK1 HB1 HD
    generalize rdF l = ff
    go_wp2_with (first | (refine wpList_load_blk 35 (.tmp 3) rfl rfl _ rfl 35 _ _ _ K1.out Try.underlying35 rfl (by kernel_rfl) ?_) | (refine wpList_load_blk 35 (.tmp 5) rfl rfl _ rfl 35 _ _ _ K2.out Try.underlying35 rfl (by kernel_rfl) ?_))
    refine HSM.out.mono ?_
    rintro e w5 ⟨rfl, hb5⟩
    have B5 := Lib.hid ((HB2.out.alloc HB2.out.size (.cells #[.slice A2 n2 c2, .slice B2 m2 d2, .int .i64 (x2 0), .int .i64 (x2 1), .int .i64 (x2 2), .int .i64 (x2 3), .int .i64 (x2 4), .int .i64 (x2 5)] 35)).trans (hb5.mono (by have := HB2.out.size; simp; omega)))
    clear hb5 HSM K1 K2
    go_wp2_with fail
    refine (alive7 _).mono ?_
    rintro e w9 ⟨rfl, hb9⟩
    go_wp2_with fail
    go_ret
    exact ⟨rfl, below_all B5.out hb9⟩
end Go.Proofs.Ythhkcckikmldcaa
