/-
  Reading: the program's reader of a configuration: the contracts of Num in the words of a reader, of num, count, a cell's set.
-/
import Derived.Test.YthhkcckikmldcaaRd5
set_option linter.unusedVariables false
set_option linter.unusedSimpArgs false
namespace Go.Proofs.Ythhkcckikmldcaa
open Go.RowKit

theorem onum_any (w0 : World) (B : Nat) (s : St) (l : List UInt8) (w : World) (h : RdO w0 B l s.2.1 w) (hl : s.2.1 = 0 → l = s.1) :
    Calls Try.prog 122 #[.pointer (some ⟨B, 0, none⟩)] w fun e w' => e = .returned (.int .u64 ((raw s).1 : Int)) ∧ (∃ l', RdO w0 B l' (raw s).2.2.1 w' ∧ ((raw s).2.2.1 = 0 → l' = (raw s).2.1)) ∧ w.grownBy w' (some B) := by
  obtain ⟨b, f, g⟩ := s
  by_cases hf : f = 0
  · subst hf
    obtain rfl : l = b := hl rfl
    refine (onum_ok w0 B l w h).mono ?_
    rintro e w' ⟨he, ⟨l', h1, h2⟩, h3⟩
    by_cases hz : (readNum l).1 = 0
    · have hr : raw (l, 0, g) = ((readNum l).2.1, (l.drop (readNum l).2.2, 0, g)) := by unfold raw; simp [hz]
      rw [hr]
      exact ⟨he, ⟨l', by rw [hz] at h1; exact h1, fun _ => h2 hz⟩, h3⟩
    · have hr : raw (l, 0, g) = (0, (l, (readNum l).1, g)) := by unfold raw; simp [hz]
      have h0 : (readNum l).2 = (0, 0) := rd_fault 10 0 0 l hz
      rw [hr]
      refine ⟨?_, ⟨l', h1, fun h => absurd h hz⟩, h3⟩
      rw [he, h0]
  · refine (onum_bad w0 B l f w h hf).mono ?_
    rintro e w' ⟨rfl, rfl⟩
    rw [raw_fault (s := (b, f, g)) hf]
    exact ⟨rfl, ⟨l, h, hl⟩, grown_refl _ _⟩

/-- The program's reader: octets at block B, the rest at block B + 1. -/
def RdG (w0 : World) (B : Nat) (s : St) (w : World) : Prop :=
  w.heap[B + 1]? = some (.cells #[.pointer (some ⟨B, 0, none⟩), .bool s.2.2] 108 (0, 0)) ∧ ∃ l, RdO w0 B l s.2.1 w ∧ (s.2.1 = 0 → l = s.1)
/-- Nothing but the reader's blocks has turned. -/
def KG (B : Nat) (w w' : World) : Prop := w.heap.size ≤ w'.heap.size ∧ ∀ k, k < w.heap.size → k ≠ B → k ≠ B + 1 → w'.heap[k]? = w.heap[k]?
theorem KG.of1 {B : Nat} {w w' : World} (h : w.grownBy w' (some B)) : KG B w w' := ⟨h.size, fun k hk h1 _ => h.block k hk (fun e => by injection e with e; exact h1 e)⟩
theorem KG.set {B : Nat} {w w' : World} (h : KG B w w') (j : Nat) (v : Value) : KG B w (w'.setCell ⟨B + 1, j, none⟩ v) :=
  ⟨by rw [World.size_setCell]; exact h.1, fun k hk h1 h2 => (by rw [Go.Deep.blk_setCell_other _ _ _ k h2]; exact h.2 k hk h1 h2)⟩

theorem gstate {w0 w1 : World} {B : Nat} {s : St} {l : List UInt8} (hw : w1.heap[B + 1]? = some (.cells #[.pointer (some ⟨B, 0, none⟩), .bool s.2.2] 108 (0, 0))) (h : RdO w0 B l s.2.1 w1) (hl : s.2.1 = 0 → l = s.1) : RdG w0 B s w1 := ⟨hw, l, h, hl⟩

set_option maxRecDepth 100000 in
set_option maxHeartbeats 4000000 in
theorem gnum_any (w0 : World) (B : Nat) (s : St) (w : World) (h : RdG w0 B s w) :
    Calls Try.prog 72 #[.pointer (some ⟨B + 1, 0, none⟩)] w fun e w' => e = .returned (.int .i64 ((stp s).1 : Int)) ∧ RdG w0 B (stp s).2 w' ∧ KG B w w' := by
  obtain ⟨h1, l, h2, h3⟩ := h
  have HC := Lib.hid (onum_any w0 B s l w h2 h3)
  have c0 := cell_heap (j := 0) h1 rfl
  have K := Lib.hid h1
  have hlt := lt_of_heap h1
  have HS : Hid (stp s = if 4611686018427387904 < (raw s).1 then (0, ((raw s).2.1, (raw s).2.2.1, true)) else raw s) := Lib.hid rfl
  have HG := Lib.hid (raw_great s)
  have hn := raw_lt s
  clear h1 h2 h3
  generalize stp s = ss at HS
  go_enter Try.func72, Try.ntmps72
  go_wp2_with fail
  refine HC.out.mono ?_
  rintro e w1 ⟨rfl, ⟨l1, k1, k2⟩, hg⟩
  have K1 := Lib.hid (grown_keep hg K.out (fun e => by injection e with e; omega))
  have D1 := Lib.hid k1
  have D2 := Lib.hid k2
  have HKG := Lib.hid (KG.of1 hg)
  have c1 := cell_heap (j := 1) K1.out rfl
  have f1 := frozen_of K1.out 1
  clear k1 k2 hg HC K c0 hlt
  rcases hr : raw s with ⟨n, b, f, g⟩
  rw [hr] at HS HG D1 D2 hn
  have hgg : g = s.2.2 := HG.out
  clear hr HG
  have hn' : (n : Int) < 18446744073709551616 := by have : n < 18446744073709551616 := hn; omega
  clear hn
  by_cases hb : 4611686018427387904 < n
  · have hb' : (4611686018427387904 : Int) < (n : Int) := by omega
    have HS' := Lib.hid (show ss = (0, (b, f, true)) by rw [HS.out, if_pos hb])
    clear hb HS
    go_wp2_with fail
    go_ret
    rw [HS'.out]
    refine ⟨rfl, ⟨heap_setSame K1.out 1 _, l1, D1.out.grown (Lib.grownBy_setCell w1 (B + 1) 1 _) (fun k e => by cases e; have := D1.out.1; omega), D2.out⟩, HKG.out.set 1 _⟩
  · have hb' : (n : Int) ≤ 4611686018427387904 := by omega
    have HS' := Lib.hid (show ss = (n, (b, f, g)) by rw [HS.out, if_neg hb])
    clear hb HS hn' c1 f1
    generalize s.2.2 = s22 at hgg K1
    subst hgg
    go_wp2_with fail
    go_ret
    rw [HS'.out]
    exact ⟨rfl, ⟨K1.out, l1, D1.out, D2.out⟩, HKG.out⟩

set_option maxHeartbeats 4000000 in
theorem gcount_any (most : Nat) (hm : most ≤ 1000) (w0 : World) (B : Nat) (s : St) (w : World) (h : RdG w0 B s w) :
    Calls Try.prog 73 #[.pointer (some ⟨B + 1, 0, none⟩), .int .u64 (most : Int)] w fun e w' => (∃ z : Int, e = .returned (.tuple #[.int .i64 z, .bool (decide ((raw s).1 ≤ most))]) ∧ ((raw s).1 ≤ most → z = ((raw s).1 : Int))) ∧ RdG w0 B (raw s).2 w' ∧ KG B w w' := by
  obtain ⟨h1, l, h2, h3⟩ := h
  have HC := Lib.hid (onum_any w0 B s l w h2 h3)
  have c0 := cell_heap (j := 0) h1 rfl
  have K := Lib.hid h1
  have HG := Lib.hid (raw_great s)
  have hn := raw_lt s
  clear h1 h2 h3
  go_enter Try.func73, Try.ntmps73
  go_wp2_with fail
  refine HC.out.mono ?_
  rintro e w1 ⟨rfl, ⟨l1, k1, k2⟩, hg⟩
  have K1 := Lib.hid (grown_keep hg K.out (fun e => by injection e with e; omega))
  have D1 := Lib.hid k1
  have D2 := Lib.hid k2
  have HKG := Lib.hid (KG.of1 hg)
  clear k1 k2 hg HC K c0
  rcases hr : raw s with ⟨n, b, f, g⟩
  rw [hr] at HG D1 D2 hn
  have hgg : g = s.2.2 := HG.out
  have HRS := Lib.hid hr
  clear hr HG
  have hn' : (n : Int) < 18446744073709551616 := by have : n < 18446744073709551616 := hn; omega
  clear hn
  have HF : Hid (RdG w0 B (b, f, g) w1) := Lib.hid ⟨by rw [hgg]; exact K1.out, l1, D1.out, D2.out⟩
  clear hgg D1 D2 K1
  by_cases hb : n ≤ most
  · have hb' : (n : Int) ≤ (most : Int) := by omega
    have hd : decide (n ≤ most) = true := decide_eq_true hb
    go_wp2_with fail
    go_ret2
    rw [HRS.out]
    refine ⟨⟨_, ?_, fun _ => rfl⟩, HF.out, HKG.out⟩
    show Ending.returned (.tuple #[.int .i64 (n : Int), .bool true]) = .returned (.tuple #[.int .i64 (n : Int), .bool (decide (n ≤ most))])
    rw [hd]
  · have hb' : ¬ (n : Int) ≤ (most : Int) := by omega
    have hd : decide (n ≤ most) = false := decide_eq_false hb
    go_wp2_with fail
    go_ret2
    rw [HRS.out]
    refine ⟨⟨(most : Int), ?_, fun h => absurd h hb⟩, HF.out, HKG.out⟩
    show Ending.returned (.tuple #[.int .i64 (most : Int), .bool false]) = .returned (.tuple #[.int .i64 (most : Int), .bool (decide (n ≤ most))])
    rw [hd]

set_option maxHeartbeats 4000000 in
theorem set_any (lg : Bool) (Q j : Nat) (arr : Array Value) (t : TypeId) (z : Int) (v0 : Value) (w : World) (hQ : w.heap[Q]? = some (.cells arr t (0, 0))) (hj : arr[j]? = some v0) :
    Calls Try.prog 75 #[.agg #[.pointer (ptL lg ⟨Q, j, none⟩), .pointer (ptL (!lg) ⟨Q, j, none⟩)], .int .i64 z] w fun e w' => e = .returned (.tuple #[]) ∧ w'.heap[Q]? = some (.cells (arr.setIfInBounds j (.int .i64 z)) t (0, 0)) ∧ w.grownBy w' (some Q) := by
  have c0 := cell_heap hQ hj
  have f0 := frozen_of hQ j
  have hlt := lt_of_heap hQ
  have K := Lib.hid hQ
  have hb := fun o => (alloc_old o hQ)
  have HB := Lib.hid hb
  clear hQ hj hb
  cases lg
  · show Calls Try.prog 75 #[.agg #[.pointer none, .pointer (some ⟨Q, j, none⟩)], .int .i64 z] w _
    go_enter Try.func75, Try.ntmps75
    go_wp2_with fail
    go_end0
    exact ⟨rfl, alloc_old _ (heap_setSame K.out j _), grown_alloc (grown_set (grown_refl _ _) j _) _⟩
  · show Calls Try.prog 75 #[.agg #[.pointer (some ⟨Q, j, none⟩), .pointer none], .int .i64 z] w _
    go_enter Try.func75, Try.ntmps75
    go_wp2_with fail
    refine bodyPost_ret (v := .tuple #[]) (by simp [results, Try.f75]) rfl ?_
    exact ⟨rfl, alloc_old _ (heap_setSame K.out j _), grown_alloc (grown_set (grown_refl _ _) j _) _⟩
end Go.Proofs.Ythhkcckikmldcaa
