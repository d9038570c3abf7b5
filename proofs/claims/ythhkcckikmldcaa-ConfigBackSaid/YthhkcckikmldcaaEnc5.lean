/-
  Config: what a configuration that is right says of its numbers; what Encode keeps while it writes.
-/
import Derived.Test.YthhkcckikmldcaaEnc4
set_option linter.unusedVariables false
set_option linter.unusedSimpArgs false
namespace Go.Proofs.Ythhkcckikmldcaa
open Go.RowKit

def small (z : Int) : Prop := 0 ≤ z ∧ z ≤ 1125899906842624
theorem sym_small {g : Nat → Int} (h : symF g = 0) : ∀ j, j < 16 → small (g j) := by
  obtain ⟨h1, _, h3, h4, h5, h6, _⟩ := symF_ok.1 h
  simp only [sp1, sp3, sp4, sp5, sp6, inAll, List.all_cons, List.all_nil, Bool.and_true, Bool.and_eq_true, inB_iff] at h1 h3 h4 h5 h6
  intro j hj
  unfold small
  rcases (by omega : j = 0 ∨ j = 1 ∨ j = 2 ∨ j = 3 ∨ j = 4 ∨ j = 5 ∨ j = 6 ∨ j = 7 ∨ j = 8 ∨ j = 9 ∨ j = 10 ∨ j = 11 ∨ j = 12 ∨ j = 13 ∨ j = 14 ∨ j = 15) with rfl | rfl | rfl | rfl | rfl | rfl | rfl | rfl | rfl | rfl | rfl | rfl | rfl | rfl | rfl | rfl <;> omega
theorem row_small {R : Nat → Nat → Int} {k : Nat} (h : rowF R k = 0) : ∀ j, j < 2 → small (R k j) := by
  unfold rowF at h
  split at h
  · cases h
  · rename_i h1
    split at h
    · rename_i h2
      have h3 := (inB_iff _ _ _).1 h2
      intro j hj
      unfold small
      rcases (by omega : j = 0 ∨ j = 1) with rfl | rfl <;> omega
    · cases h
theorem tail_small {x : Nat → Int} (h : tailF x = 0) : ∀ j, j < 6 → small (x j) := by
  obtain ⟨h1, h2, h3⟩ := tailF_ok.1 h
  simp only [cr1, cr2, cr3, inAll, List.all_cons, List.all_nil, Bool.and_true, Bool.and_eq_true, inB_iff] at h1 h2 h3
  intro j hj
  unfold small
  rcases (by omega : j = 0 ∨ j = 1 ∨ j = 2 ∨ j = 3 ∨ j = 4 ∨ j = 5) with rfl | rfl | rfl | rfl | rfl | rfl <;> omega
theorem cfg_small {n m : Nat} {S R : Nat → Nat → Int} {x : Nat → Int} (h : chkF n S m R x = 0) :
    n ≤ 8 ∧ m ≤ 20 ∧ 1 ≤ n ∧ 1 ≤ m ∧ (∀ i, i < n → ∀ j, j < 16 → small (S i j)) ∧ (∀ i, i < m → ∀ j, j < 2 → small (R i j)) ∧ (∀ j, j < 6 → small (x j)) := by
  unfold chkF at h
  split at h
  · rename_i h1
    have hn := (inB_iff _ _ _).1 h1
    split at h
    · rename_i h2
      have : (symF (S (symI S n)) != 0) = true := first_hit (fun k => symF (S k) != 0) n h2
      have h3 : symF (S (symI S n)) ≠ 0 := by simpa using this
      exact absurd h h3
    · rename_i h2
      have hall : ∀ i, i < n → symF (S i) = 0 := fun i hi => by
        have hle : symI S n = n := Nat.le_antisymm (first_le _ _) (by omega)
        have := first_none (fun k => symF (S k) != 0) n i (by show i < symI S n; omega)
        simpa using this
      split at h
      · rename_i h3
        unfold tabF at h3
        split at h3
        · rename_i h4
          have hm := (inB_iff _ _ _).1 h4
          split at h3
          · rename_i h5
            have : (rowF R (rowI R m) != 0) = true := first_hit (fun k => rowF R k != 0) m h5
            have h6 : rowF R (rowI R m) ≠ 0 := by simpa using this
            exact absurd h3 h6
          · rename_i h5
            have hle : rowI R m = m := Nat.le_antisymm (first_le _ _) (by omega)
            have hrow : ∀ i, i < m → rowF R i = 0 := fun i hi => by
              have := first_none (fun k => rowF R k != 0) m i (by show i < rowI R m; omega)
              simpa using this
            exact ⟨by omega, by omega, by omega, by omega, fun i hi => sym_small (hall i hi), fun i hi => row_small (hrow i hi), tail_small h⟩
        · cases h3
      · rename_i h3; exact absurd h h3
  · cases h

/-- A configuration's bytes, in the walks' numbers. -/
def encC (n : Nat) (S : Nat → Nat → Int) (m : Nat) (R : Nat → Nat → Int) (x : Nat → Int) : List UInt8 := encB n (fun i j => (S i j).toNat) m (fun i j => (R i j).toNat) (fun j => (x j).toNat)
theorem own1_mono {b b' : Nat} {v : Value} {l : List UInt8} {w : World} (h : Own1 b' v l w) (hb : b ≤ b') : Own1 b v l w := by
  unfold Own1 at *
  exact ⟨h.1, h.2.imp id fun ⟨g, cap, cur, a, b1, rest⟩ => ⟨g, cap, cur, a, Nat.le_trans hb b1, rest⟩⟩

/-- What holds while Encode writes: the writer at B (its variable at P), the configuration in its box at C. -/
def EncI (w : World) (C P B : Nat) (cells : Array Value) (l : List UInt8) (wr : World) : Prop :=
  Wr w.heap.size B l wr ∧ Below w.heap.size w wr ∧ wr.heap[C]? = some (.cells cells 35 (0, 0)) ∧ wr.heap[P]? = some (.cells #[.pointer (some ⟨B, 0, none⟩)] 132 (0, 0))
theorem Own1.below {base : Nat} {v : Value} {l : List UInt8} {w w1 : World} (h : Own1 base v l w) (hb : Below w.heap.size w w1) : Own1 base v l w1 :=
  World.ownsRow.kept h (row := none) ⟨hb.os, hb.tape, hb.output, hb.size, fun k hk _ => hb.block k hk⟩ (by cases v.ownBlock <;> simp)
theorem Wr.below {base B : Nat} {l : List UInt8} {w w1 : World} (h : Wr base B l w) (hb : Below w.heap.size w w1) : Wr base B l w1 := by
  obtain ⟨h1, v, h2, h3⟩ := h
  exact ⟨h1, v, block_keep hb (lt_of_heap h2) h2, h3.below hb⟩
theorem EncI.below {w wr w1 : World} {C P B : Nat} {cells : Array Value} {l : List UInt8} (h : EncI w C P B cells l wr) (hb : Below wr.heap.size wr w1) : EncI w C P B cells l w1 :=
  ⟨h.1.below hb, below_all h.2.1 hb, block_keep hb (lt_of_heap h.2.2.1) h.2.2.1, block_keep hb (lt_of_heap h.2.2.2) h.2.2.2⟩
theorem EncI.alloc {w wr : World} {C P B : Nat} {cells : Array Value} {l : List UInt8} (h : EncI w C P B cells l wr) (o : Obj) : EncI w C P B cells l (wr.alloc o) :=
  h.below ((Below.refl _ _).alloc (Nat.le_refl _) o)
theorem kept_at {B : Nat} {w w1 : World} {base : Nat} {l : List UInt8} (hW : Wr base B l w) (h : Kept B w w1) {k : Nat} {cs : Array Value} {t : TypeId} {fr : Nat × Nat} (hk : w.heap[k]? = some (.cells cs t fr)) (h1 : t ≠ 5) (h2 : t ≠ 134) : w1.heap[k]? = some (.cells cs t fr) := by
  obtain ⟨_, v, hB, _⟩ := hW
  refine h k cs t fr hk ?_ h1
  rintro rfl
  rw [hB] at hk
  simp at hk
  exact h2 hk.2.1.symm
theorem EncI.put {w wr w1 : World} {C P B : Nat} {cells : Array Value} {l l' : List UInt8} (h : EncI w C P B cells l wr) (hW : Wr w.heap.size B l' w1) (hb : Below w.heap.size wr w1) (hk : Kept B wr w1) : EncI w C P B cells l' w1 :=
  ⟨hW, h.2.1.trans hb, kept_at h.1 hk h.2.2.1 (by decide) (by decide), kept_at h.1 hk h.2.2.2 (by decide) (by decide)⟩
/-- The closure, while Encode writes. -/
theorem encI_num {w wr : World} {C P B : Nat} {cells : Array Value} {l : List UInt8} (h : EncI w C P B cells l wr) (z : Int) (hz : small z) (hl : l.length ≤ 1000000) :
    Calls Try.prog 83 #[.int .i64 z, .pointer (some ⟨P, 0, none⟩)] wr fun e w1 => ∃ v, e = .returned v ∧ EncI w C P B cells (l ++ numL z.toNat) w1 ∧ Kept B wr w1 := by
  obtain ⟨z1, z2⟩ := hz
  refine (num1_any z z1 (by omega) P w.heap.size B l hl wr h.2.2.2 h.1 h.2.1.size).mono ?_
  rintro e w1 ⟨v, rfl, h1, h2, h3⟩
  exact ⟨v, rfl, h.put h1 h2 h3, h3⟩
theorem bts2_len (G : Nat → Nat → Nat) (n c : Nat) (h : ∀ i, i < n → ∀ j, j < c → G i j < 18446744073709551616) : (bts2 G n c).length ≤ 10 * c * n := by
  induction n with
  | zero => simp [bts2]
  | succ n ih =>
    rw [bts2_succ, List.length_append]
    have a := ih (fun i hi => h i (by omega))
    have b := bts_len (G n) c (h n (by omega))
    rw [Nat.mul_succ]
    omega
end Go.Proofs.Ythhkcckikmldcaa
