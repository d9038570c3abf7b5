/-
  Reading a configuration, in plain words: what the document's reader comes to is the outcome. No function of the program is walked here.
-/
import Derived.Test.YthhkcckikmldcaaRdP
import Derived.Test.YthhkcckikmldcaaRd2
set_option linter.unusedVariables false
set_option linter.unusedSimpArgs false
namespace Go.Proofs.Ythhkcckikmldcaa
open Go.RowKit

theorem raw_great (s : St) : (raw s).2.2.2 = s.2.2 := by
  unfold raw
  split
  · split <;> rfl
  · rfl
theorem raw_zero {s : St} (h : (raw s).2.2.1 ≠ 0) : (raw s).1 = 0 := by
  unfold raw at *
  split
  · rename_i h0
    rw [if_pos h0] at h
    split
    · rename_i h1
      rw [if_pos h1] at h
      exact absurd rfl h
    · rfl
  · rfl
theorem stp_zero {s : St} (h : (stp s).2.2.1 ≠ 0) : (stp s).1 = 0 := by
  unfold stp at *
  split
  · rfl
  · rename_i h0
    rw [if_neg h0] at h
    exact raw_zero h
theorem stp_raw {s : St} (h : (raw s).1 ≤ 4611686018427387904) : stp s = raw s := by
  unfold stp; rw [if_neg (by omega)]
theorem cnt_le (most : Nat) (s : St) : (cntD most s).1 ≤ most := by
  unfold cntD
  split
  · exact Nat.zero_le _
  · rename_i h
    by_cases hf : (stp s).2.2.1 = 0
    · have : ¬ most < (stp s).1 := fun hb => h ⟨hf, .inr hb⟩
      omega
    · rw [stp_zero hf]; exact Nat.zero_le _
theorem cnt_ok {most : Nat} (hm : most ≤ 1000) {s : St} (hg : s.2.2 = false) (h : (raw s).1 ≤ most) : cntD most s = raw s := by
  unfold cntD
  rw [stp_raw (s := s) (by omega)]
  rw [if_neg]
  rintro ⟨h0, h1 | h1⟩
  · rw [raw_great, hg] at h1; cases h1
  · omega
theorem cnt_big {most : Nat} (hm : most ≤ 1000) {s : St} (h : most < (raw s).1) : (cntD most s).1 = 0 ∧ (cntD most s).2.2.1 = 4 := by
  have hf : (raw s).2.2.1 = 0 := by
    by_cases hf : (raw s).2.2.1 = 0
    · exact hf
    · have := raw_zero hf; omega
  unfold cntD
  by_cases hb : 4611686018427387904 < (raw s).1
  · have e : stp s = (0, ((raw s).2.1, (raw s).2.2.1, true)) := by unfold stp; rw [if_pos hb]
    rw [e, if_pos ⟨hf, .inl rfl⟩]
    exact ⟨rfl, rfl⟩
  · rw [stp_raw (s := s) (by omega), if_pos ⟨hf, .inr h⟩]
    exact ⟨rfl, rfl⟩
theorem raw_flag (b : List UInt8) (f : Nat) (g g' : Bool) : raw (b, f, g') = ((raw (b, f, g)).1, ((raw (b, f, g)).2.1, (raw (b, f, g)).2.2.1, g')) := by
  unfold raw
  by_cases hf : f = 0
  · subst hf
    simp only [if_true]
    by_cases h : (readNum b).1 = 0
    · rw [if_pos h, if_pos h]
    · rw [if_neg h, if_neg h]
  · simp only [hf, if_false]
theorem rows_ok {t : St} (h : (raw t).1 ≤ 20) : rowsD t = stp t := by
  obtain ⟨b, f, g⟩ := t
  have e := raw_flag b f g false
  have h' : (raw (b, f, false)).1 ≤ 20 := by rw [e]; exact h
  unfold rowsD
  rw [cnt_ok (by omega) rfl h', e, stp_raw (s := (b, f, g)) (by omega)]
  have := raw_great (b, f, g)
  exact Prod.ext rfl (Prod.ext rfl (Prod.ext rfl (by show (false || g) = (raw (b, f, g)).2.2.2; rw [this]; simp)))
theorem rows_big {t : St} (h : 20 < (raw t).1) : (rowsD t).1 = 0 ∧ (rowsD t).2.2.1 = 4 := by
  obtain ⟨b, f, g⟩ := t
  have e := raw_flag b f g false
  have h' : 20 < (raw (b, f, false)).1 := by rw [e]; exact h
  exact cnt_big (by omega) h'
theorem rows_le (t : St) : (rowsD t).1 ≤ 20 := cnt_le 20 _

/-! ### The document's reader, from stage to stage -/
def dN (l : List UInt8) : Nat := (cntD 8 (l, 0, false)).1
def dA (l : List UInt8) : St := (cntD 8 (l, 0, false)).2
def dT (l : List UInt8) : St := stn (16 * dN l) (dA l)
def dMm (l : List UInt8) : Nat := (rowsD (dT l)).1
def dB (l : List UInt8) : St := (rowsD (dT l)).2
def dU (l : List UInt8) : St := stn (2 * dMm l) (dB l)
def dE (l : List UInt8) : St := stn 6 (dU l)
theorem dN_le (l : List UInt8) : dN l ≤ 8 := cnt_le 8 _
theorem dMm_le (l : List UInt8) : dMm l ≤ 20 := rows_le _

theorem doc_good {l : List UInt8} (h1 : oN l ≤ 8) (h2 : oM l ≤ 20) : dN l = oN l ∧ dMm l = oM l ∧ (∀ k, vl (dA l) k = vl (l, 0, false) (1 + k)) ∧ (∀ k, vl (dB l) k = vl (l, 0, false) (1 + 16 * oN l + 1 + k)) ∧
    (∀ k, vl (dU l) k = vl (l, 0, false) (1 + 16 * oN l + 1 + 2 * oM l + k)) ∧ dE l = oE l := by
  have e1 : cntD 8 (l, 0, false) = raw (l, 0, false) := cnt_ok (by omega) rfl h1
  have e2 : dN l = oN l := by unfold dN; rw [e1]; rfl
  have e3 : dA l = stn 1 (l, 0, false) := by
    unfold dA
    rw [e1, ← stp_raw (s := (l, 0, false)) (by show oN l ≤ _; omega)]
    rfl
  have e4 : dT l = stn (1 + 16 * oN l) (l, 0, false) := by unfold dT; rw [e2, e3, ← stn_add]
  have e5 : rowsD (dT l) = stp (dT l) := rows_ok (by rw [e4]; exact h2)
  have e6 : dMm l = oM l := by
    unfold dMm
    rw [e5, e4, stp_raw (s := stn (1 + 16 * oN l) (l, 0, false)) (by show oM l ≤ _; omega)]
    rfl
  have e7 : dB l = stn (1 + 16 * oN l + 1) (l, 0, false) := by unfold dB; rw [e5, e4]; rfl
  have e8 : dU l = stn (1 + 16 * oN l + 1 + 2 * oM l) (l, 0, false) := by unfold dU; rw [e6, e7, ← stn_add]
  refine ⟨e2, e6, fun k => ?_, fun k => ?_, fun k => ?_, ?_⟩
  · rw [e3, vl_add]
  · rw [e7, vl_add]
  · rw [e8, vl_add]
  · unfold dE oE dEnd
    rw [e8, ← stn_add]
theorem doc_bad {l : List UInt8} (h : 8 < oN l ∨ 20 < oM l) : (dE l).2.1 = 4 := by
  by_cases h1 : 8 < oN l
  · have ⟨_, a⟩ := cnt_big (most := 8) (by omega) (s := (l, 0, false)) h1
    have fA : (dA l).2.1 = 4 := a
    have fT : dT l = dA l := stn_fault (by omega) _
    have hB : rowsD (dT l) = stp (dT l) := rows_ok (by rw [fT, raw_fault (by omega)]; exact Nat.zero_le _)
    have fB : dB l = dA l := by unfold dB; rw [hB, fT, stp_fault (by omega)]
    unfold dE dU
    rw [fB, stn_fault (s := dA l) (by omega), stn_fault (s := dA l) (by omega)]
    exact fA
  · have h2 : 20 < oM l := h.resolve_left h1
    have e1 : cntD 8 (l, 0, false) = raw (l, 0, false) := cnt_ok (by omega) rfl (by show oN l ≤ 8; omega)
    have e2 : dN l = oN l := by unfold dN; rw [e1]; rfl
    have e3 : dA l = stn 1 (l, 0, false) := by
      unfold dA
      rw [e1, ← stp_raw (s := (l, 0, false)) (by show oN l ≤ _; omega)]
      rfl
    have e4 : dT l = stn (1 + 16 * oN l) (l, 0, false) := by unfold dT; rw [e2, e3, ← stn_add]
    have ⟨_, a⟩ := rows_big (t := dT l) (by rw [e4]; exact h2)
    have fB : (dB l).2.1 = 4 := a
    unfold dE dU
    rw [stn_fault (s := dB l) (by omega), stn_fault (s := dB l) (by omega)]
    exact fB
theorem doc_out (l : List UInt8) :
    ((dE l).2.1 ≠ 0 → rdF l = ((dE l).2.1 : Int)) ∧ ((dE l).2.1 = 0 → ((dE l).2.2 = true ∨ 0 < (dE l).1.length) → rdF l = 4) ∧
    ((dE l).2.1 = 0 → ¬ ((dE l).2.2 = true ∨ 0 < (dE l).1.length) → rdF l = chkF (dN l) (fun i j => (vl (dA l) (16 * i + j) : Int)) (dMm l) (fun i j => (vl (dB l) (2 * i + j) : Int)) (fun j => (vl (dU l) j : Int)) ∧
      RdOk l (dN l) (dMm l) (fun i j => (vl (dA l) (16 * i + j) : Int)) (fun i j => (vl (dB l) (2 * i + j) : Int)) (fun j => (vl (dU l) j : Int))) := by
  by_cases h : 8 < oN l ∨ 20 < oM l
  · have h4 := doc_bad h
    refine ⟨fun _ => ?_, fun h0 => absurd h0 (by omega), fun h0 => absurd h0 (by omega)⟩
    rw [h4]
    unfold rdF
    split
    · rfl
    · rw [if_pos (by omega)]; rfl
  · obtain ⟨e1, e2, e3, e4, e5, e6⟩ := doc_good (l := l) (by omega) (by omega)
    have hS : (fun i j => (vl (dA l) (16 * i + j) : Int)) = oS l := by
      funext i j
      rw [e3]
      rfl
    have hR : (fun i j => (vl (dB l) (2 * i + j) : Int)) = oR l := by
      funext i j
      rw [e4]
      rfl
    have hX : (fun j => (vl (dU l) j : Int)) = oX l := by
      funext j
      rw [e5]
      rfl
    rw [e1, e2, e6, hS, hR, hX]
    unfold rdF
    rw [if_neg (by omega), if_neg (by omega)]
    refine ⟨fun h0 => if_neg h0, fun h0 h1 => ?_, fun h0 h1 => ⟨?_, ?_⟩⟩
    · rw [if_pos h0, if_pos h1]
    · rw [if_pos h0, if_neg h1]
    · exact ⟨rfl, rfl, fun i _ j _ => rfl, fun i _ j _ => rfl, fun j _ => rfl⟩
end Go.Proofs.Ythhkcckikmldcaa
