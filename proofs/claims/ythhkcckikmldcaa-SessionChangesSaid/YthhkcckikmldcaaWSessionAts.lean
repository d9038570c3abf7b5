/-
  The walk of SessionAts over a table as it is read: of more than 60 rows nothing is asked.
-/
import Derived.Test.YthhkcckikmldcaaSes5
import Derived.Test.YthhkcckikmldcaaOpen
set_option linter.unusedVariables false
set_option linter.unusedSimpArgs false
namespace Go.Proofs.Ythhkcckikmldcaa
open Go.RowKit

theorem rows2_of {w : World} {A : Option Addr} {n : Nat} {G : Nat → Nat → Int} (h : Tab w A n 2 G) (hn : n ≤ 60) : Rows2 w A n (fun i => G i 0) (fun i => G i 1) :=
  ⟨by omega, fun h0 => by
    obtain ⟨b, off, e, hc⟩ := h h0
    exact ⟨b, off, e, fun i hi => hc i hi 0 (by omega), fun i hi => hc i hi 1 (by omega)⟩⟩

set_option maxHeartbeats 1000000 in
theorem light_long (A : Option Addr) (n c : Nat) (tick : Int) (w : World) (hn : 60 < n) (hm : n ≤ 9223372036854775807) :
    Calls Try.prog 17 #[.slice A n c, .int .i64 tick] w fun e w' => e = .returned (.bool false) ∧ Below w.heap.size w w' := by
  have h1' : ¬ (n : Int) ≤ 60 := by omega
  go_enter Try.func17, Try.ntmps17
  go_wp2_with fail
  go_ret
  exact ⟨rfl, Below.refl _ _⟩

set_option maxHeartbeats 1000000 in
theorem walkSessionAts (w : World) (A : Option Addr) (n c : Nat) (hnc : n ≤ c) (hmx : c ≤ 9223372036854775807) (G : Nat → Nat → Int) (h : Tab w A n 2 G) (hg : ∀ i, i < n → ∀ j, j < 2 → i64Ok (G i j)) (tick : Int) (ht : -9223372036854775808 ≤ tick ∧ tick ≤ 9223372036854775807) :
    Calls Try.prog 3 #[.slice A n c, .int .i64 tick] w fun e w' => e = .returned (.bool true) ∧ Below w.heap.size w w' := by
  by_cases hn : n ≤ 60
  · exact sessionAts_any A n c _ _ tick w (rows2_of h hn)
  · have HL := Lib.hid (light_long A n c tick w (by omega) (by omega))
    clear h hg
    go_enter Try.func3, Try.ntmps3
    go_wp2_with fail
    refine (HL.out).mono ?_
    rintro e w1 ⟨rfl, hb1⟩
    go_wp2_with fail
    refine (alive8 _).mono ?_
    rintro e w2 ⟨rfl, hb2⟩
    go_wp2_with fail
    go_ret
    exact ⟨rfl, below_all hb1 hb2⟩
end Go.Proofs.Ythhkcckikmldcaa
