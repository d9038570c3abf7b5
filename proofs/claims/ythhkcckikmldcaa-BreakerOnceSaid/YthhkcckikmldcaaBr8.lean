/-
  Breaker: what one step of either Index does. (Written by gen_br8.py, a program of this session's own.)
-/
import Derived.Test.YthhkcckikmldcaaBr7
set_option linter.unusedVariables false
set_option linter.unusedSimpArgs false
namespace Go.Proofs.Ythhkcckikmldcaa
open Go.RowKit

/-- What one step does with a state and gives. -/
def BrStep (x : Nat → Int) (tick : Int) (u0 u1 : Bool) (t : Int) (sh v0 v1 : Bool) (v2 : Int) (v3 : Bool) (rn : Int) : Prop :=
  (rn = 0 ∧ v0 = u0 ∧ v1 = u1 ∧ v2 = t ∧ v3 = sh) ∨
  (rn = 1 ∧ sh = false ∧ ¬ tick < t ∧ u0 = false ∧ v0 = true ∧ v1 = u1 ∧ v2 = wrap64 (tick + x 4) ∧ v3 = false) ∨
  (rn = 2 ∧ sh = false ∧ ¬ tick < t ∧ u1 = false ∧ v0 = true ∧ v1 = true ∧ v2 = wrap64 (tick + x 5) ∧ v3 = false) ∨
  (rn = 3 ∧ sh = false ∧ v0 = u0 ∧ v1 = u1 ∧ v2 = 0 ∧ v3 = true)
theorem both_index (A : Option Addr) (n c : Nat) (B : Option Addr) (m d : Nat) (x : Nat → Int) (HT : TailOk x) (u0 u1 : Bool) (t : Int) (sh : Bool) (tick at_ : Int) (hat : -9223372036854775808 ≤ at_ ∧ at_ ≤ 9223372036854775807) :
    ∃ (v0 v1 : Bool) (v2 : Int) (v3 : Bool) (rn : Int),
      (∀ w, Calls Try.prog 60 #[.agg #[.slice A n c, .slice B m d, .int .i64 (x 0), .int .i64 (x 1), .int .i64 (x 2), .int .i64 (x 3), .int .i64 (x 4), .int .i64 (x 5)], .agg #[.bool u0, .bool u1, .int .i64 t, .bool sh], .int .i64 tick, .int .i64 at_] w fun e w' => e = .returned (.tuple #[.agg #[.bool v0, .bool v1, .int .i64 v2, .bool v3], .int .i64 rn]) ∧ Below w.heap.size w w') ∧
      (∀ w, Calls Try.prog 61 #[.agg #[.slice A n c, .slice B m d, .int .i64 (x 0), .int .i64 (x 1), .int .i64 (x 2), .int .i64 (x 3), .int .i64 (x 4), .int .i64 (x 5)], .agg #[.bool u0, .bool u1, .int .i64 t, .bool sh], .int .i64 tick, .int .i64 at_] w fun e w' => e = .returned (.tuple #[.agg #[.bool v0, .bool v1, .int .i64 v2, .bool v3], .int .i64 rn]) ∧ Below w.heap.size w w') ∧
      BrStep x tick u0 u1 t sh v0 v1 v2 v3 rn := by
  have HL0 := fun W => level_any A n c B m d x at_ W HT hat
  have HR0 := fun W => refLevel_any A n c B m d x at_ W HT hat
  have HL : ∀ L, levelF x at_ = L → Hid (∀ W : World, Calls Try.prog 65 #[.agg #[.slice A n c, .slice B m d, .int .i64 (x 0), .int .i64 (x 1), .int .i64 (x 2), .int .i64 (x 3), .int .i64 (x 4), .int .i64 (x 5)], .int .i64 at_] W fun e w' => e = .returned (.int .i64 L) ∧ Below W.heap.size W w') := fun L e => by subst e; exact Lib.hid HL0
  have HR : ∀ L, levelF x at_ = L → Hid (∀ W : World, Calls Try.prog 112 #[.agg #[.slice A n c, .slice B m d, .int .i64 (x 0), .int .i64 (x 1), .int .i64 (x 2), .int .i64 (x 3), .int .i64 (x 4), .int .i64 (x 5)], .int .i64 at_] W fun e w' => e = .returned (.int .i64 L) ∧ Below W.heap.size W w') := fun L e => by subst e; exact Lib.hid HR0
  cases sh
  · rcases level_range x at_ with e | e | e | e
    · by_cases ht : tick < t
      · exact ⟨u0, u1, t, false, 0, fun W => index_ha A n c B m d x t tick at_ u0 u1 0 (by omega) ht W (HL 0 e), fun W => refIndex_ha A n c B m d x t tick at_ u0 u1 0 (by omega) ht W (HR 0 e), Or.inl ⟨rfl, rfl, rfl, rfl, rfl⟩⟩
      · exact ⟨u0, u1, t, false, 0, fun W => index_hz A n c B m d x t tick at_ u0 u1 ht W (HL 0 e), fun W => refIndex_hz A n c B m d x t tick at_ u0 u1 ht W (HR 0 e), Or.inl ⟨rfl, rfl, rfl, rfl, rfl⟩⟩
    · by_cases ht : tick < t
      · exact ⟨u0, u1, t, false, 0, fun W => index_ha A n c B m d x t tick at_ u0 u1 1 (by omega) ht W (HL 1 e), fun W => refIndex_ha A n c B m d x t tick at_ u0 u1 1 (by omega) ht W (HR 1 e), Or.inl ⟨rfl, rfl, rfl, rfl, rfl⟩⟩
      · cases u0 <;> cases u1
        · exact ⟨true, false, _, false, 1, fun W => index_1ff A n c B m d x t tick at_ ht W (HL 1 e), fun W => refIndex_1ff A n c B m d x t tick at_ ht W (HR 1 e), Or.inr (Or.inl ⟨rfl, rfl, ht, rfl, rfl, rfl, rfl, rfl⟩)⟩
        · exact ⟨true, true, _, false, 1, fun W => index_1ft A n c B m d x t tick at_ ht W (HL 1 e), fun W => refIndex_1ft A n c B m d x t tick at_ ht W (HR 1 e), Or.inr (Or.inl ⟨rfl, rfl, ht, rfl, rfl, rfl, rfl, rfl⟩)⟩
        · exact ⟨true, false, t, false, 0, fun W => index_1tf A n c B m d x t tick at_ ht W (HL 1 e), fun W => refIndex_1tf A n c B m d x t tick at_ ht W (HR 1 e), Or.inl ⟨rfl, rfl, rfl, rfl, rfl⟩⟩
        · exact ⟨true, true, t, false, 0, fun W => index_1tt A n c B m d x t tick at_ ht W (HL 1 e), fun W => refIndex_1tt A n c B m d x t tick at_ ht W (HR 1 e), Or.inl ⟨rfl, rfl, rfl, rfl, rfl⟩⟩
    · by_cases ht : tick < t
      · exact ⟨u0, u1, t, false, 0, fun W => index_ha A n c B m d x t tick at_ u0 u1 2 (by omega) ht W (HL 2 e), fun W => refIndex_ha A n c B m d x t tick at_ u0 u1 2 (by omega) ht W (HR 2 e), Or.inl ⟨rfl, rfl, rfl, rfl, rfl⟩⟩
      · cases u0 <;> cases u1
        · exact ⟨true, true, _, false, 2, fun W => index_2ff A n c B m d x t tick at_ ht W (HL 2 e), fun W => refIndex_2ff A n c B m d x t tick at_ ht W (HR 2 e), Or.inr (Or.inr (Or.inl ⟨rfl, rfl, ht, rfl, rfl, rfl, rfl, rfl⟩))⟩
        · exact ⟨true, true, _, false, 1, fun W => index_2ft A n c B m d x t tick at_ ht W (HL 2 e), fun W => refIndex_2ft A n c B m d x t tick at_ ht W (HR 2 e), Or.inr (Or.inl ⟨rfl, rfl, ht, rfl, rfl, rfl, rfl, rfl⟩)⟩
        · exact ⟨true, true, _, false, 2, fun W => index_2tf A n c B m d x t tick at_ ht W (HL 2 e), fun W => refIndex_2tf A n c B m d x t tick at_ ht W (HR 2 e), Or.inr (Or.inr (Or.inl ⟨rfl, rfl, ht, rfl, rfl, rfl, rfl, rfl⟩))⟩
        · exact ⟨true, true, t, false, 0, fun W => index_2tt A n c B m d x t tick at_ ht W (HL 2 e), fun W => refIndex_2tt A n c B m d x t tick at_ ht W (HR 2 e), Or.inl ⟨rfl, rfl, rfl, rfl, rfl⟩⟩
    · exact ⟨u0, u1, 0, true, 3, fun W => index_l3 A n c B m d x t tick at_ u0 u1 W (HL 3 e), fun W => refIndex_l3 A n c B m d x t tick at_ u0 u1 W (HR 3 e), Or.inr (Or.inr (Or.inr ⟨rfl, rfl, rfl, rfl, rfl, rfl⟩))⟩
  · exact ⟨u0, u1, t, true, 0, fun W => index_sh A n c B m d x t tick at_ u0 u1 (levelF x at_) W (HL _ rfl), fun W => refIndex_sh A n c B m d x t tick at_ u0 u1 (levelF x at_) W (HR _ rfl), Or.inl ⟨rfl, rfl, rfl, rfl, rfl⟩⟩

end Go.Proofs.Ythhkcckikmldcaa
