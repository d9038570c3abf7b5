/-
  How an argument of bytes is read. No function of the program is walked here.
-/
import Derived.Test.YthhkcckikmldcaaOpen2
import Derived.Test.YthhkcckikmldcaaEnc1
set_option linter.unusedVariables false
set_option linter.unusedSimpArgs false
namespace Go.Proofs.Ythhkcckikmldcaa
open Go.ChangeShapes Go.WideShapes Go.ChangeAt Go.RowKit Go.Deep
section
variable {H : Type} {enc : TypeId × Value → H} {w : World} {base : Nat} {spare : Nat → Bool} {held : Bool} {fuel : Nat} {cs : List Value} {x : DataW H × List MemPlace}
theorem open_bytes30 (h : DataW.trod enc Try.prog w base spare held fuel 30 cs = some x) :
    ∃ A, ∃ (l : List UInt8) (c : Nat), cs = [.slice A l.length c] ∧ l.length ≤ c ∧ c ≤ 9223372036854775807 ∧ (A = none → c = 0) ∧ RB w A l := by
  rcases open_ints Try.underlying30 Try.underlying5 (by kernel_rfl) h with ⟨hcs, _⟩ | ⟨a, len, cap, zs, hcs, _, hl, hm, hz, _, hcell, hwz⟩
  · exact ⟨none, [], 0, hcs, Nat.le_refl _, by omega, fun _ => rfl, fun h => absurd h (Nat.lt_irrefl _)⟩
  · have hlen : len ≤ zs.length := by rw [hz]; split <;> omega
    have hlz : ((zs.take len).map fun z => UInt8.ofNat z.toNat).length = len := by simp; omega
    refine ⟨some a, (zs.take len).map fun z => UInt8.ofNat z.toNat, cap, by rw [hlz]; exact hcs, by rw [hlz]; exact hl, by unfold maxLen at hm; omega, fun h => (by cases h), fun hn => ?_⟩
    rw [hlz] at hn
    obtain ⟨b, off, spot⟩ := a
    have hspot : spot = none := by
      have := hcell 0 (by omega)
      simpa [Addr.add] using World.cell?_spot this
    subst hspot
    refine ⟨b, off, rfl, fun j hj => ?_⟩
    rw [hlz] at hj
    have h1 := hcell j (by omega)
    rw [add_at] at h1
    have hjz : j < zs.length := by omega
    have h2 := bounds_u8 (hwz zs[j] (List.getElem_mem hjz))
    rw [h1]
    have e1 : zs.getD j 0 = zs[j] := by simp [hjz]
    have e2 : (((zs.take len).map fun z => UInt8.ofNat z.toNat)[j]'(by rw [hlz]; exact hj)) = UInt8.ofNat zs[j].toNat := by simp
    rw [e1, e2, toNat_of (by omega)]
    congr 2
    omega
end
end Go.Proofs.Ythhkcckikmldcaa
