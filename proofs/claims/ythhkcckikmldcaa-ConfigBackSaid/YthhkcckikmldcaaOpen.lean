/-
  How the arguments of this seat's laws are read: structs whose cells are all int64, slices of such, the configuration. No function of the program is walked here.
-/
import Derived.Test.YthhkcckikmldcaaBase
import Derived.ProofKit
import Derived.OpenShut
import Derived.ShutString
import Derived.ChangeOld
import Derived.ChangeSame
import Derived.Deep.Slices
import Derived.Deep.Fields
set_option linter.unusedVariables false
set_option linter.unusedSimpArgs false
namespace Go.Proofs.Ythhkcckikmldcaa
open Go.ChangeShapes Go.WideShapes Go.ChangeAt Go.RowKit Go.Deep

theorem add_at (b off j : Nat) : (⟨b, off, none⟩ : Addr).add j = ⟨b, off + j, none⟩ := by
  unfold Addr.add
  split <;> simp_all

def i64Ok (n : Int) : Prop := -9223372036854775808 ≤ n ∧ n ≤ 9223372036854775807

section
variable {H : Type} {enc : TypeId × Value → H} {P : Program} {w : World} {base : Nat} {spare : Nat → Bool} {held : Bool} {fuel : Nat} {t : TypeId} {cs : List Value} {x : DataW H × List MemPlace}

/-- BY THE KERNEL: every field is one cell, an int64. -/
def allInts (P : Program) (fs : Array Field) : Bool := (List.range fs.size).all fun i => match fs[i]? with
  | some f => (match P.underlying f.type with | some (.int .i64) => true | _ => false)
  | none => false
theorem allInts_of {fs : Array Field} (h : allInts P fs = true) : ∀ (i : Nat) (f : Field), fs[i]? = some f → P.underlying f.type = some (.int .i64) := by
  intro i f hi
  have hlt : i < fs.size := (Array.getElem?_eq_some_iff.1 hi).1
  have := List.all_eq_true.1 h i (List.mem_range.2 hlt)
  simp only [hi] at this
  split at this
  · assumption
  · cases this

/-- A struct of int64 cells. -/
theorem trod_ints {fs : Array Field} (hs : P.underlying t = some (.struct fs)) (hone : oneCellFields P fs = true) (hint : allInts P fs = true) (hC : P.cellsOf t = fs.size)
    (h : DataW.trod enc P w base spare held fuel t cs = some x) : ∃ g : Nat → Int, cs = (List.range fs.size).map (fun j => Value.int .i64 (g j)) ∧ ∀ j, j < fs.size → i64Ok (g j) := by
  obtain ⟨xs, n, _, _, hl, hxl, hf⟩ := DataW.trod_struct hs h
  have hj : ∀ j, j < fs.size → ∃ q, cs[j]? = some (.int .i64 q) ∧ i64Ok q := by
    intro j hj
    have hfj : fs[j]? = some fs[j] := by simp [hj]
    obtain ⟨ho, hk⟩ := hone_of hone j _ hfj
    have h1 := hf j _ hfj
    rw [ho, hk, take1_drop cs j .nilFunc (by omega)] at h1
    obtain ⟨y, hy⟩ : ∃ y, xs[j]? = some y := ⟨xs[j]'(by omega), by simp [hxl, hj]⟩
    rw [hy] at h1
    obtain ⟨q, hq, _, hwf⟩ := DataW.trod_int (allInts_of hint j _ hfj) h1
    refine ⟨q, ?_, bounds_i64 hwf⟩
    simp only [List.cons.injEq, and_true] at hq
    rw [List.getD_eq_getElem?_getD] at hq
    have : j < cs.length := by omega
    rw [List.getElem?_eq_getElem this] at hq ⊢
    simpa using hq
  refine ⟨fun j => if h : j < fs.size then (hj j h).choose else 0, ?_, fun j h => ?_⟩
  · apply List.ext_getElem?
    intro j
    by_cases h : j < fs.size
    · rw [(hj j h).choose_spec.1]
      simp [h]
    · rw [List.getElem?_eq_none (by omega), List.getElem?_eq_none (by simp; omega)]
  · simp only [dif_pos h]
    exact (hj j h).choose_spec.2

/-- An array of int64 cells. -/
theorem trod_arr_ints {k : Nat} {e : TypeId} (hs : P.underlying t = some (.array k e)) (he : P.underlying e = some (.int .i64)) (hce : P.cellsOf e = 1) (hC : P.cellsOf t = k)
    (h : DataW.trod enc P w base spare held fuel t cs = some x) : ∃ g : Nat → Int, cs = (List.range k).map (fun j => Value.int .i64 (g j)) ∧ ∀ j, j < k → i64Ok (g j) := by
  obtain ⟨xs, n, _, _, hl, hxl, hf⟩ := DataW.trod_array hs h
  have hj : ∀ j, j < k → ∃ q, cs[j]? = some (.int .i64 q) ∧ i64Ok q := by
    intro j hj
    have h1 := hf j hj
    rw [hce, Nat.mul_one, take1_drop cs j .nilFunc (by omega)] at h1
    obtain ⟨y, hy⟩ : ∃ y, xs[j]? = some y := ⟨xs[j]'(by omega), by simp [hxl, hj]⟩
    rw [hy] at h1
    obtain ⟨q, hq, _, hwf⟩ := DataW.trod_int he h1
    refine ⟨q, ?_, bounds_i64 hwf⟩
    simp only [List.cons.injEq, and_true] at hq
    rw [List.getD_eq_getElem?_getD] at hq
    have : j < cs.length := by omega
    rw [List.getElem?_eq_getElem this] at hq ⊢
    simpa using hq
  refine ⟨fun j => if h : j < k then (hj j h).choose else 0, ?_, fun j h => ?_⟩
  · apply List.ext_getElem?
    intro j
    by_cases h : j < k
    · rw [(hj j h).choose_spec.1]
      simp [h]
    · rw [List.getElem?_eq_none (by omega), List.getElem?_eq_none (by simp; omega)]
  · simp only [dif_pos h]
    exact (hj j h).choose_spec.2

/-- n elements of k int64 cells each, at an address (no address is asked for where n is 0). -/
def Tab (w : World) (A : Option Addr) (n k : Nat) (G : Nat → Nat → Int) : Prop :=
  0 < n → ∃ b off, A = some ⟨b, off, none⟩ ∧ ∀ i, i < n → ∀ j, j < k → w.cell? ⟨b, off + i * k + j, none⟩ = some (.int .i64 (G i j))
theorem Tab.below {w w1 : World} {A : Option Addr} {n k : Nat} {G : Nat → Nat → Int} (h : Tab w A n k G) (hb : Below w.heap.size w w1) : Tab w1 A n k G := fun hn => by
  obtain ⟨b, off, e, hc⟩ := h hn
  exact ⟨b, off, e, fun i hi j hj => bcell hb (hc i hi j hj)⟩

theorem open_tab_of {e : TypeId} {k : Nat} (ht : P.underlying t = some (.slice e)) (hk : 0 < k) (hC : P.cellsOf e = k)
    (hel : ∀ (n : Nat) (cs' : List Value) (y : DataW H × List MemPlace), DataW.trod enc P w base spare held n e cs' = some y → ∃ g : Nat → Int, cs' = (List.range k).map (fun j => Value.int .i64 (g j)) ∧ ∀ j, j < k → i64Ok (g j))
    (h : DataW.trod enc P w base spare held fuel t cs = some x) :
    ∃ A n c, cs = [.slice A n c] ∧ n ≤ c ∧ c ≤ 9223372036854775807 ∧ ∃ G : Nat → Nat → Int, Tab w A n k G ∧ ∀ i, i < n → ∀ j, j < k → i64Ok (G i j) := by
  rcases open_slice ht h with ⟨hcs, _⟩ | ⟨a, len, cap, m, n, D, Pl, hcs, _, hl, hm, hmm, _, hi⟩
  · exact ⟨none, 0, 0, hcs, Nat.le_refl _, by omega, fun _ _ => 0, fun h => absurd h (Nat.lt_irrefl _), fun i hi => absurd hi (Nat.not_lt_zero _)⟩
  · have hlm : len ≤ m := by rw [hmm]; split <;> omega
    have hrow : ∀ i, i < len → ∃ g : Nat → Int, (∀ j, j < k → w.cell? (a.add (i * k + j)) = some (.int .i64 (g j))) ∧ ∀ j, j < k → i64Ok (g j) := by
      intro i him
      obtain ⟨cs', hc, ht'⟩ := hi i (by omega)
      obtain ⟨g, rfl, hg⟩ := hel n cs' _ ht'
      obtain ⟨_, _, hat⟩ := World.cells?_some hc
      refine ⟨g, fun j hj => ?_, hg⟩
      have := hat j (by rw [hC]; exact hj)
      rw [hC, Go.Deep.add_add] at this
      rw [this]
      simp [hj]
    have hmax : cap ≤ 9223372036854775807 := by unfold maxLen at hm; omega
    by_cases h0 : len = 0
    · subst h0
      exact ⟨some a, 0, cap, hcs, Nat.zero_le _, hmax, fun _ _ => 0, fun h => absurd h (Nat.lt_irrefl _), fun i hi => absurd hi (Nat.not_lt_zero _)⟩
    · obtain ⟨b, off, spot⟩ := a
      have hspot : spot = none := by
        obtain ⟨g, hg, _⟩ := hrow 0 (by omega)
        have := hg 0 hk
        simpa [Addr.add] using World.cell?_spot this
      subst hspot
      refine ⟨_, len, cap, hcs, hl, hmax, fun i j => if h : i < len then (hrow i h).choose j else 0, fun _ => ⟨b, off, rfl, fun i hi j hj => ?_⟩, fun i hi j hj => ?_⟩
      · have := (hrow i hi).choose_spec.1 j hj
        rw [add_at] at this
        simp only [dif_pos hi]
        rw [Nat.add_assoc]
        exact this
      · simp only [dif_pos hi]
        exact (hrow i hi).choose_spec.2 j hj
end

/-! ### At this seat's types -/
theorem cells53 : Try.prog.cellsOf 53 = 2 := by kernel_rfl
theorem cells56 : Try.prog.cellsOf 56 = 16 := by kernel_rfl
theorem cells58 : Try.prog.cellsOf 58 = 3 := by kernel_rfl
theorem cells75 : Try.prog.cellsOf 75 = 2 := by kernel_rfl
theorem cells2 : Try.prog.cellsOf 2 = 1 := by kernel_rfl
theorem cells3 : Try.prog.cellsOf 3 = 1 := by kernel_rfl
theorem cells35 : Try.prog.cellsOf 35 = 8 := by kernel_rfl
theorem cells32 : Try.prog.cellsOf 32 = 3 := by kernel_rfl
theorem cells33 : Try.prog.cellsOf 33 = 2 := by kernel_rfl
theorem cells22 : Try.prog.cellsOf 22 = 1 := by kernel_rfl
theorem cells31 : Try.prog.cellsOf 31 = 1 := by kernel_rfl
theorem own : ownKnob Try.prog.godebug = none := by kernel_rfl
theorem laidOut : laidOutB Try.prog = true := by kernel_rfl

section
variable {H : Type} {enc : TypeId × Value → H} {w : World} {base : Nat} {spare : Nat → Bool} {held : Bool} {fuel : Nat} {cs : List Value} {x : DataW H × List MemPlace} {r : Reach} {b0 : Nat} {v : Value} {d : DataW H} {p : List MemPlace}

/-- A table as the walks take it: its rows' At and Phase. -/
theorem open_rows22 (h : DataW.trod enc Try.prog w base spare held fuel 22 cs = some x) :
    ∃ A n c, cs = [.slice A n c] ∧ n ≤ c ∧ c ≤ 9223372036854775807 ∧ ∃ G : Nat → Nat → Int, Tab w A n 2 G ∧ ∀ i, i < n → ∀ j, j < 2 → i64Ok (G i j) :=
  open_tab_of Try.underlying22 (by omega) cells53 (fun n cs' y hy => by
    obtain ⟨g, h1, h2⟩ := trod_ints Try.underlying53 (by kernel_rfl) (by kernel_rfl) cells53 hy
    exact ⟨g, h1, h2⟩) h
theorem open_syms31 (h : DataW.trod enc Try.prog w base spare held fuel 31 cs = some x) :
    ∃ A n c, cs = [.slice A n c] ∧ n ≤ c ∧ c ≤ 9223372036854775807 ∧ ∃ G : Nat → Nat → Int, Tab w A n 16 G ∧ ∀ i, i < n → ∀ j, j < 16 → i64Ok (G i j) :=
  open_tab_of Try.underlying31 (by omega) cells56 (fun n cs' y hy => by
    obtain ⟨g, h1, h2⟩ := trod_ints Try.underlying56 (by kernel_rfl) (by kernel_rfl) cells56 hy
    exact ⟨g, h1, h2⟩) h
theorem open_nums82 (h : DataW.trod enc Try.prog w base spare held fuel 82 cs = some x) :
    ∃ A n c, cs = [.slice A n c] ∧ n ≤ c ∧ c ≤ 9223372036854775807 ∧ ∃ G : Nat → Nat → Int, Tab w A n 1 G ∧ ∀ i, i < n → ∀ j, j < 1 → i64Ok (G i j) :=
  open_tab_of Try.underlying82 (by omega) cells2 (fun n cs' y hy => by
    obtain ⟨q, rfl, _, hwf⟩ := DataW.trod_int Try.underlying2 hy
    exact ⟨fun _ => q, rfl, fun j _ => bounds_i64 hwf⟩) h
theorem trod_of (h : DataW.Trod enc Try.prog w base spare held 22 v d p) : ∃ fuel, DataW.trod enc Try.prog w base spare held fuel 22 v.cells.toList = some (d, p) := h
end
end Go.Proofs.Ythhkcckikmldcaa
