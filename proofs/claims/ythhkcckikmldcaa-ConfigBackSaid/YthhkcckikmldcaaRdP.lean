/-
  Reading a configuration, in plain words: the outcome of any bytes; that two readers of one outcome give the same configuration; that what was written is read, and what is read was written so. No function of the program is walked here.
-/
import Derived.Test.YthhkcckikmldcaaEnc9
set_option linter.unusedVariables false
set_option linter.unusedSimpArgs false
namespace Go.Proofs.Ythhkcckikmldcaa
open Go.RowKit

/-- How many symbols and rows stand there. -/
def oN (l : List UInt8) : Nat := (raw (l, 0, false)).1
def oM (l : List UInt8) : Nat := (raw (stn (1 + 16 * oN l) (l, 0, false))).1
/-- What the reader is behind all. -/
def oE (l : List UInt8) : St := dEnd (l, 0, false) (oN l) (oM l)
def oS (l : List UInt8) (i j : Nat) : Int := (dS (l, 0, false) i j : Int)
def oR (l : List UInt8) (i j : Nat) : Int := (dR (l, 0, false) (oN l) i j : Int)
def oX (l : List UInt8) (j : Nat) : Int := (dX (l, 0, false) (oN l) (oM l) j : Int)
/-- The fault of reading. -/
def rdF (l : List UInt8) : Int :=
  if 8 < oN l then 4 else if 20 < oM l then 4
  else if (oE l).2.1 = 0 then (if (oE l).2.2 = true ∨ 0 < (oE l).1.length then 4 else chkF (oN l) (oS l) (oM l) (oR l) (oX l)) else ((oE l).2.1 : Int)
/-- A configuration that stands there. -/
def RdOk (l : List UInt8) (n m : Nat) (S R : Nat → Nat → Int) (x : Nat → Int) : Prop :=
  n = oN l ∧ m = oM l ∧ (∀ i, i < n → ∀ j, j < 16 → S i j = oS l i j) ∧ (∀ i, i < m → ∀ j, j < 2 → R i j = oR l i j) ∧ ∀ j, j < 6 → x j = oX l j
/-- A configuration that was read. -/
def RdOut (l : List UInt8) (n m : Nat) (S R : Nat → Nat → Int) (x : Nat → Int) : Prop :=
  (rdF l ≠ 0 → n = 0 ∧ m = 0 ∧ ∀ j, j < 6 → x j = 0) ∧
  (rdF l = 0 → RdOk l n m S R x)

theorem eqTab_iff {k : Nat} {S T : Nat → Nat → Int} {n : Nat} : eqTab k S T n = true ↔ ∀ i, i < n → ∀ j, j < k → S i j = T i j := by
  simp [eqTab, eqRow]
theorem sameB_of {n m : Nat} {S R T U : Nat → Nat → Int} {x y : Nat → Int} (h1 : ∀ i, i < n → ∀ j, j < 16 → S i j = T i j) (h2 : ∀ i, i < m → ∀ j, j < 2 → R i j = U i j) (h3 : ∀ j, j < 6 → x j = y j) : sameB n m S R x n m T U y = true := by
  unfold sameB
  rw [eqTab_iff.2 h1, eqTab_iff.2 h2, eqRow_iff.2 (fun j hj => h3 (1 + j) (by omega)), eqRow_iff.2 (fun j hj => h3 (4 + j) (by omega)), h3 0 (by omega)]
  simp
/-- Two readers of one outcome. -/
theorem rd_same {l : List UInt8} {n m n' m' : Nat} {S R T U : Nat → Nat → Int} {x y : Nat → Int} (h : RdOut l n m S R x) (k : RdOut l n' m' T U y) : sameB n m S R x n' m' T U y = true := by
  by_cases hz : rdF l = 0
  · obtain ⟨rfl, rfl, a, b, c⟩ := h.2 hz
    obtain ⟨rfl, rfl, a', b', c'⟩ := k.2 hz
    exact sameB_of (fun i hi j hj => (a i hi j hj).trans (a' i hi j hj).symm) (fun i hi j hj => (b i hi j hj).trans (b' i hi j hj).symm) (fun j hj => (c j hj).trans (c' j hj).symm)
  · obtain ⟨rfl, rfl, a⟩ := h.1 hz
    obtain ⟨rfl, rfl, b⟩ := k.1 hz
    exact sameB_of (fun i hi => absurd hi (Nat.not_lt_zero _)) (fun i hi => absurd hi (Nat.not_lt_zero _)) (fun j hj => (a j hj).trans (b j hj).symm)

theorem chk_congr {n m : Nat} {S R T U : Nat → Nat → Int} {x y : Nat → Int} (h1 : ∀ i, i < n → ∀ j, j < 16 → S i j = T i j) (h2 : ∀ i, i < m → ∀ j, j < 2 → R i j = U i j) (h3 : ∀ j, j < 6 → x j = y j) : chkF n S m R x = chkF n T m U y := by
  have hs : ∀ i, i < n → symF (S i) = symF (T i) := fun i hi => by
    have e : ∀ j, j < 16 → S i j = T i j := h1 i hi
    simp only [symF, symRules, sp1, sp2, sp3, sp4, sp5, sp6, sp7, e 0 (by omega), e 1 (by omega), e 2 (by omega), e 3 (by omega), e 4 (by omega), e 5 (by omega), e 6 (by omega), e 7 (by omega), e 8 (by omega), e 9 (by omega), e 10 (by omega), e 11 (by omega), e 12 (by omega), e 13 (by omega), e 14 (by omega), e 15 (by omega)]
  have hsi : symI S n = symI T n := first_congr (fun i hi => by show (symF (S i) != 0) = (symF (T i) != 0); rw [hs i hi])
  have hr : ∀ i, i < m → rowF R i = rowF U i := fun i hi => by
    have e : ∀ j, j < 2 → R i j = U i j := h2 i hi
    have e' : 0 < i → R (i - 1) 0 = U (i - 1) 0 := fun h => h2 (i - 1) (by omega) 0 (by omega)
    unfold rowF
    rcases Nat.eq_zero_or_pos i with rfl | hp
    · simp [e 0 (by omega), e 1 (by omega)]
    · rw [e' hp, e 0 (by omega), e 1 (by omega)]
  have hri : rowI R m = rowI U m := first_congr (fun i hi => by show (rowF R i != 0) = (rowF U i != 0); rw [hr i hi])
  have ht : tabF m R = tabF m U := by
    unfold tabF
    rw [hri]
    by_cases c1 : inB 1 20 m = true
    · rw [if_pos c1, if_pos c1]
      by_cases c2 : rowI U m < m
      · rw [if_pos c2, if_pos c2]
        exact hr _ c2
      · rw [if_neg c2, if_neg c2]
    · rw [if_neg c1, if_neg c1]
  have hx : tailF x = tailF y := by
    simp only [tailF, tailRules, cr1, cr2, cr3, h3 0 (by omega), h3 1 (by omega), h3 2 (by omega), h3 3 (by omega), h3 4 (by omega), h3 5 (by omega)]
  unfold chkF
  rw [hsi, ht, hx]
  by_cases c1 : inB 1 8 n = true
  · rw [if_pos c1, if_pos c1]
    by_cases c2 : symI T n < n
    · rw [if_pos c2, if_pos c2]
      exact hs _ c2
    · rw [if_neg c2, if_neg c2]
  · rw [if_neg c1, if_neg c1]

theorem oE_fault_of {l : List UInt8} (h : rdF l = 0) : oN l ≤ 8 ∧ oM l ≤ 20 ∧ oE l = ([], 0, false) ∧ chkF (oN l) (oS l) (oM l) (oR l) (oX l) = 0 := by
  unfold rdF at h
  split at h
  · omega
  · split at h
    · omega
    · split at h
      · rename_i h0
        split at h
        · omega
        · rename_i h1
          refine ⟨by omega, by omega, ?_, h⟩
          have h2 : (oE l).2.2 = false := by
            cases hh : (oE l).2.2
            · rfl
            · exact absurd (Or.inl hh) h1
          have h3 : (oE l).1 = [] := by
            cases hh : (oE l).1 with
            | nil => rfl
            | cons a b => exact absurd (Or.inr (by rw [hh]; simp)) h1
          exact Prod.ext h3 (Prod.ext h0 h2)
      · rename_i h0
        exact absurd (by omega) h0
theorem raw_stp {s : St} (h : (raw s).1 ≤ 4611686018427387904) : (stp s).1 = (raw s).1 := by
  unfold stp; rw [if_neg (by omega)]
/-- What is read was written so. -/
theorem rd_enc {l : List UInt8} {n m : Nat} {S R : Nat → Nat → Int} {x : Nat → Int} (h : RdOut l n m S R x) (hz : rdF l = 0) : chkF n S m R x = 0 ∧ encC n S m R x = l := by
  obtain ⟨hn, hm, he, hc⟩ := oE_fault_of hz
  obtain ⟨rfl, rfl, a, b, c⟩ := h.2 hz
  refine ⟨(chk_congr a b c).trans hc, ?_⟩
  have e1 : oN l = vl (l, 0, false) 0 := (raw_stp (s := (l, 0, false)) (by show oN l ≤ _; omega)).symm
  have e2 : oM l = dM (l, 0, false) (oN l) := (raw_stp (s := stn (1 + 16 * oN l) (l, 0, false)) (by show oM l ≤ _; omega)).symm
  have e3 := enc_read (l := l) e1 e2 he
  unfold encC encB
  unfold encB at e3
  have E1 : bts2 (fun i j => (S i j).toNat) (oN l) 16 = bts2 (dS (l, 0, false)) (oN l) 16 := bts2_congr (fun i hi j hj => by rw [a i hi j hj]; exact Int.toNat_natCast _)
  have E2 : bts2 (fun i j => (R i j).toNat) (oM l) 2 = bts2 (dR (l, 0, false) (oN l)) (oM l) 2 := bts2_congr (fun i hi j hj => by rw [b i hi j hj]; exact Int.toNat_natCast _)
  have E3 : bts (fun j => (x j).toNat) 6 = bts (dX (l, 0, false) (oN l) (oM l)) 6 := bts_congr (fun j hj => by rw [c j hj]; exact Int.toNat_natCast _)
  rw [E1, E2, E3]
  exact e3.symm
/-- What was written is read. -/
theorem enc_rd {n m : Nat} {S R : Nat → Nat → Int} {x : Nat → Int} (hz : chkF n S m R x = 0) : rdF (encC n S m R x) = 0 ∧ ∀ n' m' T U y, RdOut (encC n S m R x) n' m' T U y → sameB n m S R x n' m' T U y = true := by
  obtain ⟨h1, h2, _, _, hS, hR, hX⟩ := cfg_small hz
  obtain ⟨a1, a2, a3, a4, a5, a6, a7, a8⟩ := read_enc n (fun i j => (S i j).toNat) m (fun i j => (R i j).toNat) (fun j => (x j).toNat) (by omega) (by omega)
    (fun i hi j hj => by have := hS i hi j hj; unfold small at this; show (S i j).toNat ≤ _; omega) (fun i hi j hj => by have := hR i hi j hj; unfold small at this; show (R i j).toNat ≤ _; omega) (fun j hj => by have := hX j hj; unfold small at this; show (x j).toNat ≤ _; omega)
  have eN : oN (encC n S m R x) = n := a7
  have eM : oM (encC n S m R x) = m := by unfold oM; rw [eN]; exact a8
  have eE : oE (encC n S m R x) = ([], 0, false) := by unfold oE; rw [eN, eM]; exact a6
  have eS : ∀ i, i < n → ∀ j, j < 16 → S i j = oS (encC n S m R x) i j := fun i hi j hj => by
    have := hS i hi j hj
    unfold small at this
    have h : oS (encC n S m R x) i j = ((S i j).toNat : Int) := congrArg (fun k : Nat => (k : Int)) (a2 i hi j hj)
    rw [h]; omega
  have eR : ∀ i, i < m → ∀ j, j < 2 → R i j = oR (encC n S m R x) i j := fun i hi j hj => by
    have := hR i hi j hj
    unfold small at this
    have h : oR (encC n S m R x) i j = ((R i j).toNat : Int) := by unfold oR; rw [eN]; exact congrArg (fun k : Nat => (k : Int)) (a4 i hi j hj)
    rw [h]; omega
  have eX : ∀ j, j < 6 → x j = oX (encC n S m R x) j := fun j hj => by
    have := hX j hj
    unfold small at this
    have h : oX (encC n S m R x) j = ((x j).toNat : Int) := by unfold oX; rw [eN, eM]; exact congrArg (fun k : Nat => (k : Int)) (a5 j hj)
    rw [h]; omega
  have hF : rdF (encC n S m R x) = 0 := by
    unfold rdF
    rw [eE, eM, eN, if_neg (by omega), if_neg (by omega), if_pos rfl, if_neg (by simp), ← chk_congr eS eR eX]
    exact hz
  refine ⟨hF, fun n' m' T U y k => ?_⟩
  obtain ⟨e1, e2, a', b', c'⟩ := k.2 hF
  rw [eN] at e1
  rw [eM] at e2
  subst e1 e2
  exact sameB_of (fun i hi j hj => (eS i hi j hj).trans (a' i hi j hj).symm) (fun i hi j hj => (eR i hi j hj).trans (b' i hi j hj).symm) (fun j hj => (eX j hj).trans (c' j hj).symm)
end Go.Proofs.Ythhkcckikmldcaa
