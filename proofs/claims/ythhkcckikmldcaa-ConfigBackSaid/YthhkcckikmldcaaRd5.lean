/-
  Reading: the program's reader of octets: the contracts of take, bad, Fault, Left, Num.
-/
import Derived.Test.YthhkcckikmldcaaRd4
import Derived.Laws.BitsAllLaws
set_option linter.unusedVariables false
set_option linter.unusedSimpArgs false
namespace Go.Proofs.Ythhkcckikmldcaa
open Go.RowKit

/-- The reader of octets at block B: the bytes that are left, the fault; they lie where they lay in w0. -/
def RdO (w0 : World) (B : Nat) (l : List UInt8) (f : Nat) (w : World) : Prop :=
  w0.heap.size ≤ B ∧ Below w0.heap.size w0 w ∧ l.length ≤ 1000000 ∧ ∃ A c, w.heap[B]? = some (.cells #[.slice A l.length c, .int .i64 (f : Int)] 160 (0, 0)) ∧ RB w0 A l ∧ l.length ≤ c

set_option maxHeartbeats 4000000 in
theorem take_fault (w0 : World) (B : Nat) (l : List UInt8) (f : Nat) (w : World) (h : RdO w0 B l f w) (hf : f ≠ 0) :
    Calls Try.prog 128 #[.pointer (some ⟨B, 0, none⟩), .int .i64 1] w fun e w' => e = .returned (.tuple #[.slice none 0 0, .bool false]) ∧ w' = w := by
  obtain ⟨-, -, -, A, c, h4, -, -⟩ := h
  have c1 := cell_heap (j := 1) h4 rfl
  have hf' : ¬ (f : Int) = 0 := by omega
  have hz2 : ((f : Int) != 0) = true := by rw [bne_iff_ne]; exact hf'
  have hz3 : ((f : Int) == 0) = false := beq_eq_false_iff_ne.2 hf'
  clear h4 hf
  go_enter Try.func128, Try.ntmps128
  go_wp2
  go_ret2
  exact ⟨rfl, rfl⟩

set_option maxHeartbeats 4000000 in
theorem take_nil (w0 : World) (B : Nat) (w : World) (h : RdO w0 B [] 0 w) :
    Calls Try.prog 128 #[.pointer (some ⟨B, 0, none⟩), .int .i64 1] w fun e w' => e = .returned (.tuple #[.slice none 0 0, .bool false]) ∧ RdO w0 B [] 3 w' ∧ w.grownBy w' (some B) := by
  obtain ⟨h1, h2, h3, A, c, h4, h5, h6⟩ := h
  have H := Lib.hid (And.intro h1 (And.intro h2 (And.intro h5 h6)))
  have K := Lib.hid h4
  have c0 : w.cell? ⟨B, 0, none⟩ = some (.slice A 0 c) := cell_heap (j := 0) h4 rfl
  have c1 : w.cell? ⟨B, 1, none⟩ = some (.int .i64 0) := cell_heap (j := 1) h4 rfl
  have f1 := frozen_of h4 1
  clear h1 h2 h3 h4 h5 h6
  go_enter Try.func128, Try.ntmps128
  go_wp2
  go_ret2
  exact ⟨rfl, ⟨H.out.1, below_grown H.out.2.1 (Nat.le_refl _) (grown_set (grown_refl _ _) 1 _) H.out.1, Nat.zero_le _, A, c, heap_setSame K.out 1 _, H.out.2.2.1, H.out.2.2.2⟩, grown_set (grown_refl _ _) 1 _⟩

set_option maxHeartbeats 4000000 in
theorem take_cons (w0 : World) (B : Nat) (x : UInt8) (l : List UInt8) (w : World) (h : RdO w0 B (x :: l) 0 w) :
    Calls Try.prog 128 #[.pointer (some ⟨B, 0, none⟩), .int .i64 1] w fun e w' => ∃ b off c, e = .returned (.tuple #[.slice (some ⟨b, off, none⟩) 1 c, .bool true]) ∧ w0.cell? ⟨b, off, none⟩ = some (.int .u8 (x.toNat : Int)) ∧ RdO w0 B l 0 w' ∧ w.grownBy w' (some B) := by
  obtain ⟨h1, h2, h3, A, c, h4, h5, h6⟩ := h
  obtain ⟨b, off, rfl, hc⟩ := h5 (by simp)
  have hc0 := Lib.hid (hc 0 (by simp))
  have H := Lib.hid (And.intro h1 (And.intro h2 (And.intro h5 h6)))
  have K := Lib.hid h4
  simp only [List.length_cons] at h3 h6 h4
  have c0 : w.cell? ⟨B, 0, none⟩ = some (.slice (some ⟨b, off, none⟩) (l.length + 1) c) := cell_heap (j := 0) h4 rfl
  have c1 : w.cell? ⟨B, 1, none⟩ = some (.int .i64 0) := cell_heap (j := 1) h4 rfl
  have f0 := frozen_of h4 0
  have hl : (l.length : Int) + 1 ≤ (c : Int) := by omega
  have hl2 : ¬ ((l.length : Int) + 1) < 1 := by omega
  have hc1 : ¬ c = 0 := by omega
  have HA : Hid (RB w0 (some ⟨b, off + 1, none⟩) l) := Lib.hid (fun hn => ⟨b, off + 1, rfl, fun j hj => by
    have := hc (j + 1) (by simp; omega)
    rw [show off + 1 + j = off + (j + 1) by omega]
    simpa using this⟩)
  have HC0 : Hid (w0.cell? ⟨b, off, none⟩ = some (.int .u8 (x.toNat : Int))) := Lib.hid (by have := hc0.out; rwa [Nat.add_zero] at this)
  clear h1 h2 h4 h5 hc hc0
  by_cases h1 : c = 1
  · subst h1
    have hl0 : l = [] := List.eq_nil_of_length_eq_zero (by omega)
    subst hl0
    go_enter Try.func128, Try.ntmps128
    go_wp2
    go_ret2
    exact ⟨b, off, ⟨_, rfl⟩, HC0.out, ⟨H.out.1, below_grown H.out.2.1 (Nat.le_refl _) (grown_set (grown_refl _ _) 0 _) H.out.1, Nat.zero_le _, _, _, heap_setSame K.out 0 _, fun hn => absurd hn (Nat.lt_irrefl _), Nat.le_refl _⟩, grown_set (grown_refl _ _) 0 _⟩
  · have hk : l.length ≤ c - 1 := by omega
    have HK := Lib.hid hk
    clear hk
    go_enter Try.func128, Try.ntmps128
    go_wp2
    go_ret2
    exact ⟨b, off, ⟨_, rfl⟩, HC0.out, ⟨H.out.1, below_grown H.out.2.1 (Nat.le_refl _) (grown_set (grown_refl _ _) 0 _) H.out.1, by omega, _, _, heap_setSame K.out 0 _, HA.out, HK.out⟩, grown_set (grown_refl _ _) 0 _⟩

set_option maxHeartbeats 4000000 in
theorem bad_any (w0 : World) (B : Nat) (l : List UInt8) (f : Nat) (w : World) (h : RdO w0 B l f w) :
    Calls Try.prog 129 #[.pointer (some ⟨B, 0, none⟩)] w fun e w' => e = .returned (.int .u64 0) ∧ RdO w0 B l 4 w' ∧ w.grownBy w' (some B) := by
  obtain ⟨h1, h2, h3, A, c, h4, h5, h6⟩ := h
  have H := Lib.hid (And.intro h1 (And.intro h2 (And.intro h5 h6)))
  have K := Lib.hid h4
  have c1 := cell_heap (j := 1) h4 rfl
  have f1 := frozen_of h4 1
  clear h1 h2 h4 h5 h6
  go_enter Try.func129, Try.ntmps129
  go_wp2
  go_ret
  exact ⟨rfl, ⟨H.out.1, below_grown H.out.2.1 (Nat.le_refl _) (grown_set (grown_refl _ _) 1 _) H.out.1, h3, A, c, heap_setSame K.out 1 _, H.out.2.2.1, H.out.2.2.2⟩, grown_set (grown_refl _ _) 1 _⟩

set_option maxHeartbeats 4000000 in
theorem fault_any (w0 : World) (B : Nat) (l : List UInt8) (f : Nat) (w : World) (h : RdO w0 B l f w) :
    Calls Try.prog 77 #[.pointer (some ⟨B, 0, none⟩)] w fun e w' => e = .returned (.int .i64 (f : Int)) ∧ w' = w := by
  obtain ⟨-, -, -, A, c, h4, -, -⟩ := h
  have c1 := cell_heap (j := 1) h4 rfl
  clear h4
  go_enter Try.func77, Try.ntmps77
  go_wp2
  go_ret
  exact ⟨rfl, rfl⟩
set_option maxHeartbeats 4000000 in
theorem left_any (w0 : World) (B : Nat) (l : List UInt8) (f : Nat) (w : World) (h : RdO w0 B l f w) :
    Calls Try.prog 78 #[.pointer (some ⟨B, 0, none⟩)] w fun e w' => e = .returned (.int .i64 (l.length : Int)) ∧ w' = w := by
  obtain ⟨-, -, -, A, c, h4, -, -⟩ := h
  have c0 := cell_heap (j := 0) h4 rfl
  clear h4
  go_enter Try.func78, Try.ntmps78
  go_wp2
  go_ret
  exact ⟨rfl, rfl⟩

theorem RdO.grown {w0 w w1 : World} {B : Nat} {l : List UInt8} {f : Nat} {row : Option Nat} (h : RdO w0 B l f w) (hg : w.grownBy w1 row) (hr : ∀ k, row = some k → w0.heap.size ≤ k ∧ k ≠ B) : RdO w0 B l f w1 := by
  obtain ⟨h1, h2, h3, A, c, h4, h5, h6⟩ := h
  exact ⟨h1, h2.grown hg h2.size (fun k e => (hr k e).1), h3, A, c, grown_keep hg h4 (fun e => (hr B e.symm).2 rfl), h5, h6⟩

set_option maxRecDepth 100000 in
theorem andnot128 : ∀ k : Fin 256, bits BinOp.andNot IntKind.u8 ((k.val : Nat) : Int) 128 = ((k.val % 128 : Nat) : Int) := by decide
theorem or_shl (acc d i : Nat) (ha : acc < 128 ^ i) (hs : acc + d * 128 ^ i < 18446744073709551616) : bits BinOp.or IntKind.u64 (acc : Int) ((d * 128 ^ i : Nat) : Int) = ((acc + d * 128 ^ i : Nat) : Int) := by
  have e : (128 : Nat) ^ i = 2 ^ (7 * i) := by rw [show (128 : Nat) = 2 ^ 7 from rfl, ← Nat.pow_mul]
  rw [u64_or_nat acc (d * 128 ^ i) (by omega) (by omega), Nat.or_comm]
  rw [e] at ha hs ⊢
  rw [nat_join (7 * i) (d * 2 ^ (7 * i)) acc (Nat.mul_mod_left _ _) ha, Nat.add_comm]

theorem or_shl2 {acc d i : Nat} (h : bits BinOp.or IntKind.u64 (acc : Int) ((d * 128 ^ i : Nat) : Int) = ((acc + d * 128 ^ i : Nat) : Int)) (hs : acc + d * 128 ^ i < 18446744073709551616) :
    bits BinOp.or IntKind.u64 (acc : Int) (IntKind.u64.wrap ((d : Int) * 2 ^ (7 * i))) = ((acc + d * 128 ^ i : Nat) : Int) := by
  have e : (d : Int) * 2 ^ (7 * i) = ((d * 128 ^ i : Nat) : Int) := by
    rw [show (128 : Nat) ^ i = 2 ^ (7 * i) by rw [show (128 : Nat) = 2 ^ 7 from rfl, ← Nat.pow_mul], Int.natCast_mul, Int.natCast_pow]
    rfl
  rw [e, IntWalk.u64_in _ ⟨by omega, by omega⟩]
  exact h
theorem acc_lt {acc d i : Nat} (ha : acc < 128 ^ i) (hd : d < 128) : acc + d * 128 ^ i < 128 ^ (i + 1) := by
  have h1 : d * 128 ^ i ≤ 127 * 128 ^ i := Nat.mul_le_mul_right _ (by omega)
  rw [Nat.pow_succ]
  omega
theorem or_shl9 {acc d : Nat} (h : bits BinOp.or IntKind.u64 (acc : Int) ((d * 128 ^ 9 : Nat) : Int) = ((acc + d * 128 ^ 9 : Nat) : Int)) (hs : acc + d * 128 ^ 9 < 18446744073709551616) :
    bits BinOp.or IntKind.u64 (acc : Int) ((d : Int) * 9223372036854775808) = ((acc + d * 128 ^ 9 : Nat) : Int) := by
  have e : (d : Int) * 9223372036854775808 = ((d * 128 ^ 9 : Nat) : Int) := by omega
  rw [e]
  exact h
/-- The program's reader of numbers. -/
def ONum (w0 : World) (B : Nat) (l : List UInt8) (w : World) (e : Ending) (w' : World) : Prop :=
  e = .returned (.int .u64 ((readNum l).2.1 : Int)) ∧ (∃ l', RdO w0 B l' (readNum l).1 w' ∧ ((readNum l).1 = 0 → l' = l.drop (readNum l).2.2)) ∧ w.grownBy w' (some B)

set_option maxRecDepth 100000 in
set_option maxHeartbeats 8000000 in
theorem onum_ok (w0 : World) (B : Nat) (l : List UInt8) (w : World) (h : RdO w0 B l 0 w) :
    Calls Try.prog 122 #[.pointer (some ⟨B, 0, none⟩)] w (ONum w0 B l w) := by
  have H := Lib.hid h
  clear h
  have hmf : ∀ (fn : Fn) (first cap : Array Value) (w : World), (Instr.makeFunc fn first cap).run Try.prog w = .ok (.func fn first cap) w := fun _ _ _ _ => rfl
  obtain ⟨EP, hEP⟩ : ∃ EP : Ending → World → Prop, EP = ONum w0 B l w := ⟨_, rfl⟩
  rw [← hEP]
  have HEP := Lib.hid hEP
  clear hEP
  go_enter Try.func122, Try.ntmps122
  go_wp2_with fail
  go_step3
  go_wp2_with fail
  go_step3
  go_wp2_with fail
  go_loopw [2, 4] (fun s2 s4 wr => ∃ (i acc : Nat), s4 = .int .i64 (i : Int) ∧ s2 = .int .u64 (acc : Int) ∧ i ≤ 10 ∧ i ≤ l.length ∧ Hid (i ≤ 9 → acc < 128 ^ i) ∧ Hid (readNum l = rd (10 - i) i acc (l.drop i)) ∧ Hid (RdO w0 B (l.drop i) 0 wr) ∧ Hid (w.grownBy wr (some B))) (fun _ s _ => 10 - (intOf s).toNat)
  case atStart => exact ⟨0, 0, rfl, rfl, by omega, by omega, Lib.hid (fun _ => by decide), Lib.hid rfl, H, Lib.hid (grown_refl _ _)⟩
  case round =>
    obtain ⟨i, acc, rfl, rfl, hi, hil, HA, HR, HD, HG⟩ := hrel
    by_cases h10 : i < 10
    · have h10' : (i : Int) < 10 := by omega
      by_cases hlt : i < l.length
      · rw [List.drop_eq_getElem_cons hlt] at HD HR
        have hβ : l[i].toNat < 256 := l[i].toNat_lt
        have hand := andnot128 ⟨l[i].toNat, hβ⟩
        have HR2 : Hid (readNum l = (if 9 - i = 0 ∧ 1 < l[i].toNat % 128 then (4, 0, 0) else if 128 ≤ l[i].toNat then rd (9 - i) (i + 1) (acc + l[i].toNat % 128 * 128 ^ i) (l.drop (i + 1)) else if l[i].toNat % 128 = 0 ∧ 0 < i then (4, 0, 0) else (0, acc + l[i].toNat % 128 * 128 ^ i, i + 1))) := by
          rw [HR.out, show 10 - i = (9 - i) + 1 by omega]
          exact Lib.hid rfl
        clear HR
        go_wp2_with fail
        refine (take_cons w0 B l[i] (l.drop (i + 1)) _ HD.out).mono ?_
        rintro e w1 ⟨b, off, c, rfl, hcell, hd1, hg1⟩
        have c0 := hd1.2.1.cell (World.block_lt_of_cell? w0 _ hcell)
        have c1 := c0.trans hcell
        have D1 := Lib.hid hd1
        have G1 := Lib.hid (grown_trans HG.out hg1)
        clear hcell hd1 hg1 c0 HD HG
        generalize l[i].toNat = β at c1 hand HR2 hβ
        have hand' : bits BinOp.andNot IntKind.u8 (β : Int) 128 = ((β % 128 : Nat) : Int) := hand
        clear hand
        have hd : β % 128 < 128 := Nat.mod_lt _ (by omega)
        have hdm : β % 128 ≤ β := Nat.mod_le _ _
        have hdl : 128 ≤ β ∨ β % 128 = β := by omega
        generalize β % 128 = d at hand' HR2 hd hdm hdl
        by_cases c9 : i = 9 ∧ 1 < d
        · obtain ⟨rfl, c9⟩ := c9
          have HE := Lib.hid (show readNum l = (4, 0, 0) by rw [HR2.out, if_pos ⟨by omega, c9⟩])
          have z1 : (1 : Int) < (d : Int) := by omega
          clear HR2
          go_wp2_with fail
          refine (bad_any w0 B _ 0 _ D1.out).mono ?_
          rintro e w2 ⟨rfl, hd2, hg2⟩
          have D2 := Lib.hid hd2
          have G2 := Lib.hid (grown_trans G1.out hg2)
          clear hd2 hg2
          go_wp2_with fail
          rw [HEP.out]
          exact ⟨by rw [HE.out]; rfl, ⟨_, by rw [HE.out]; exact D2.out, fun h => by rw [HE.out] at h; cases h⟩, G2.out⟩
        · rw [if_neg (by omega)] at HR2
          have hsum : acc + d * 128 ^ i < 18446744073709551616 := by
            have h1 := HA.out (by omega)
            by_cases i8 : i ≤ 8
            · have h2 : 128 ^ i ≤ 128 ^ 8 := Nat.pow_le_pow_right (by omega) i8
              have h3 : d * 128 ^ i ≤ 128 * 128 ^ 8 := Nat.mul_le_mul (by omega) h2
              omega
            · obtain rfl : i = 9 := by omega
              have h3 : d * 128 ^ 9 ≤ 1 * 128 ^ 9 := Nat.mul_le_mul_right _ (by omega)
              omega
          have HOR := Lib.hid (or_shl acc d i (HA.out (by omega)) hsum)
          have HSM := Lib.hid hsum
          clear hsum
          have hc9 : (i : Int) = 9 → ¬ (1 : Int) < (d : Int) := fun e => by omega
          by_cases i9 : i = 9
          · obtain rfl : i = 9 := i9
            have hd1 : ¬ (1 : Int) < (d : Int) := hc9 rfl
            have hd1' : d ≤ 1 := by omega
            clear hc9
            have HQ := Lib.hid (or_shl9 HOR.out HSM.out)
            generalize acc + d * 128 ^ 9 = N at HR2 HQ
            clear HOR HSM HA hi h10 c9
            by_cases c128 : 128 ≤ β
            · have z1 : (128 : Int) ≤ (β : Int) := by omega
              rw [if_pos c128] at HR2
              clear hdl
              go_wp2_with fail
              go_roundw
              case rel => exact ⟨10, N, rfl, by rw [HQ.out], Nat.le_refl _, by omega, Lib.hid (fun h => absurd h (by decide)), HR2, D1, G1⟩
              case measure => simp [intOf]
            · have z1 : ¬ (128 : Int) ≤ (β : Int) := by omega
              rw [if_neg c128] at HR2
              clear hdl
              by_cases dz : d = 0 ∧ 0 < 9
              · rw [if_pos dz] at HR2
                obtain ⟨rfl, h0⟩ := dz
                have z3 : (0 : Int) < (9 : Int) := by omega
                have hand0 : bits BinOp.andNot IntKind.u8 (β : Int) 128 = 0 := hand'
                clear hand'
                go_wp2_with fail
                refine (bad_any w0 B _ 0 _ D1.out).mono ?_
                rintro e w2 ⟨rfl, hd2, hg2⟩
                have D2 := Lib.hid hd2
                have G2 := Lib.hid (grown_trans G1.out hg2)
                clear hd2 hg2
                go_wp2_with fail
                rw [HEP.out]
                exact ⟨by rw [HR2.out]; rfl, ⟨_, by rw [HR2.out]; exact D2.out, fun h => by rw [HR2.out] at h; cases h⟩, G2.out⟩
              · rw [if_neg dz] at HR2
                by_cases d0 : d = 0
                · exact absurd ⟨d0, by omega⟩ dz
                · have z4 : ¬ (d : Int) = 0 := by omega
                  have hz2 : ((d : Int) != 0) = true := by rw [bne_iff_ne]; exact z4
                  have hz3 : ((d : Int) == 0) = false := beq_eq_false_iff_ne.2 z4
                  clear dz d0
                  go_wp2_with fail
                  rw [HEP.out]
                  exact ⟨by rw [HR2.out]; exact ret_int HQ.out, ⟨_, by rw [HR2.out]; exact D1.out, fun h => by rw [HR2.out]⟩, G1.out⟩
          · have i9' : ¬ (i : Int) = 9 := by omega
            clear hc9
            by_cases c128 : 128 ≤ β
            · have z1 : (128 : Int) ≤ (β : Int) := by omega
              rw [if_pos c128] at HR2
              clear hdl
              go_wp2_with fail
              go_roundw
              case rel => exact ⟨i + 1, acc + d * 128 ^ i, by go_num, by rw [or_shl2 HOR.out HSM.out], by omega, by omega, Lib.hid (fun h => acc_lt (HA.out (by omega)) hd), by rw [show 10 - (i + 1) = 9 - i by omega]; exact HR2, D1, G1⟩
              case measure => simp [intOf]; omega
            · have z1 : ¬ (128 : Int) ≤ (β : Int) := by omega
              rw [if_neg c128] at HR2
              clear hdl
              by_cases dz : d = 0 ∧ 0 < i
              · rw [if_pos dz] at HR2
                obtain ⟨rfl, h0⟩ := dz
                have z3 : (0 : Int) < (i : Int) := by omega
                have hand0 : bits BinOp.andNot IntKind.u8 (β : Int) 128 = 0 := hand'
                clear hand' HOR HSM
                go_wp2_with fail
                refine (bad_any w0 B _ 0 _ D1.out).mono ?_
                rintro e w2 ⟨rfl, hd2, hg2⟩
                have D2 := Lib.hid hd2
                have G2 := Lib.hid (grown_trans G1.out hg2)
                clear hd2 hg2
                go_wp2_with fail
                rw [HEP.out]
                exact ⟨by rw [HR2.out]; rfl, ⟨_, by rw [HR2.out]; exact D2.out, fun h => by rw [HR2.out] at h; cases h⟩, G2.out⟩
              · rw [if_neg dz] at HR2
                by_cases d0 : d = 0
                · obtain rfl : i = 0 := by omega
                  subst d0
                  have hand0 : bits BinOp.andNot IntKind.u8 (β : Int) 128 = 0 := hand'
                  have ha0 : acc = 0 := by have := HA.out (by omega); omega
                  subst ha0
                  clear hand' dz HOR HSM
                  go_wp2_with fail
                  rw [HEP.out]
                  exact ⟨by rw [HR2.out]; exact ret_int (by decide), ⟨_, by rw [HR2.out]; exact D1.out, fun h => by rw [HR2.out]⟩, G1.out⟩
                · have z4 : ¬ (d : Int) = 0 := by omega
                  have hz2 : ((d : Int) != 0) = true := by rw [bne_iff_ne]; exact z4
                  have hz3 : ((d : Int) == 0) = false := beq_eq_false_iff_ne.2 z4
                  clear dz d0
                  go_wp2_with fail
                  rw [HEP.out]
                  exact ⟨by rw [HR2.out]; exact ret_int (or_shl2 HOR.out HSM.out), ⟨_, by rw [HR2.out]; exact D1.out, fun h => by rw [HR2.out]⟩, G1.out⟩
      · have HE := Lib.hid (show readNum l = (3, 0, 0) by
          rw [HR.out, List.drop_of_length_le (by omega), show 10 - i = (9 - i) + 1 by omega]; rfl)
        rw [List.drop_of_length_le (by omega)] at HD
        go_wp2_with fail
        refine (take_nil w0 B _ HD.out).mono ?_
        rintro e w1 ⟨rfl, hd1, hg1⟩
        have D1 := Lib.hid hd1
        have G1 := Lib.hid (grown_trans HG.out hg1)
        clear hd1 hg1 HD HG
        go_wp2_with fail
        rw [HEP.out]
        exact ⟨by rw [HE.out]; rfl, ⟨[], by rw [HE.out]; exact D1.out, fun h => by rw [HE.out] at h; cases h⟩, G1.out⟩
    · have HE := Lib.hid (show readNum l = (4, 0, 0) by rw [HR.out, show 10 - i = 0 by omega]; rfl)
      have h10' : ¬ (i : Int) < 10 := by omega
      go_wp2_with fail
      refine (bad_any w0 B _ 0 _ HD.out).mono ?_
      rintro e w2 ⟨rfl, hd2, hg2⟩
      have D2 := Lib.hid hd2
      have G2 := Lib.hid (grown_trans HG.out hg2)
      clear hd2 hg2
      go_wp2_with fail
      rw [HEP.out]
      exact ⟨by rw [HE.out]; rfl, ⟨_, by rw [HE.out]; exact D2.out, fun h => by rw [HE.out] at h; cases h⟩, G2.out⟩

set_option maxHeartbeats 4000000 in
theorem onum_bad (w0 : World) (B : Nat) (l : List UInt8) (f : Nat) (w : World) (h : RdO w0 B l f w) (hf : f ≠ 0) :
    Calls Try.prog 122 #[.pointer (some ⟨B, 0, none⟩)] w fun e w' => e = .returned (.int .u64 0) ∧ w' = w := by
  have H := Lib.hid (take_fault w0 B l f w h hf)
  clear h
  have hmf : ∀ (fn : Fn) (first cap : Array Value) (w : World), (Instr.makeFunc fn first cap).run Try.prog w = .ok (.func fn first cap) w := fun _ _ _ _ => rfl
  go_enter Try.func122, Try.ntmps122
  go_wp2_with fail
  go_step3
  go_wp2_with fail
  go_step3
  go_wp2_with fail
  refine wp_loop_rounds 1 ?_
  rw [rounds_succ]
  go_wp2_with fail
  refine H.out.mono ?_
  rintro e w1 ⟨rfl, rfl⟩
  go_wp2_with fail
  rw [Exit.noGoto_ret]
  go_ret
  exact ⟨rfl, rfl⟩
end Go.Proofs.Ythhkcckikmldcaa
