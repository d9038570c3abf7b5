/-
  Octets and config: the contracts of bytes.Clone, the writer's Bytes, a cell's get, the closure of Encode.
-/
import Derived.Test.YthhkcckikmldcaaEnc2
set_option linter.unusedVariables false
set_option linter.unusedSimpArgs false
namespace Go.Proofs.Ythhkcckikmldcaa
open Go.RowKit

theorem made0 (w : World) : (w.alloc (.cells #[] 5)).ownsRow w.heap.size 5 1 (.slice (some ⟨w.heap.size, 0, none⟩) 0 0) 0 (bcs []) := by
  refine ⟨rfl, .inr ⟨w.heap.size, 0, #[], rfl, Nat.le_refl _, heap_new w _, Nat.le_refl _, by unfold maxLen; omega, rfl, rfl⟩⟩

set_option maxHeartbeats 1000000 in
theorem clone_nil (c : Nat) (w : World) : Calls Try.prog 121 #[.slice none 0 0] w fun e w' => e = .returned (.slice none 0 0) ∧ w' = w := by
  have hn := @Lib.run_eql_slice_nil
  go_enter Try.func121, Try.ntmps121
  go_wp2
  go_ret
  exact ⟨rfl, rfl⟩

theorem src_at {w W : World} {b off : Nat} {l : List UInt8} (hc : ∀ j (hj : j < l.length), w.cell? ⟨b, off + j, none⟩ = some (.int .u8 (l[j].toNat : Int))) (hb : Below w.heap.size w W) :
    ∀ j u, (bcs l)[j]? = some u → W.cell? ((⟨b, off, none⟩ : Addr).add j) = some u := fun j u hu => by
  rw [show (⟨b, off, none⟩ : Addr).add j = ⟨b, off + j, none⟩ by unfold Addr.add; split <;> simp_all]
  have hj : j < l.length := by
    have := (List.getElem?_eq_some_iff.1 hu).1
    rwa [bcs_len] at this
  simp [bcs, hj] at hu
  rw [← hu]
  exact bcell hb (hc j hj)
theorem made_below {w w1 : World} (hg : (w.alloc (.cells #[] 5)).grownBy w1 (Value.slice (some ⟨w.heap.size, 0, none⟩) 0 0).ownBlock) : Below w.heap.size w w1 :=
  ((Below.refl w.heap.size w).alloc (Nat.le_refl _) _).grown hg (by rw [World.size_alloc]; omega) (fun k e => by cases e; exact Nat.le_refl _)
theorem own_nil_app {B : Nat} {v : Value} {l : List UInt8} {w : World} (h : w.ownsRow B 5 1 v (0 + l.length) (bcs [] ++ bcs l)) : Own1 B v l w := by
  rw [Nat.zero_add] at h; exact h

set_option maxHeartbeats 1000000 in
theorem clone_zero (a : Addr) (c : Nat) (w : World) :
    Calls Try.prog 121 #[.slice (some a) ([] : List UInt8).length c] w fun e w' => ∃ v, e = .returned v ∧ Own1 w.heap.size v [] w' ∧ Below w.heap.size w w' := by
  obtain ⟨i0, hi, hz0, hz1, hz2⟩ := info_parts Try.info5
  have HI := Lib.hid hi
  have HZ0 := Lib.hid hz0
  have HZ1 := Lib.hid hz1
  have HZ2 := Lib.hid hz2
  clear hi hz0 hz1 hz2
  have hn := fun W : World => Lib.run_eql_slice_nil (P := Try.prog) W 30 5 (some a) 0 c 0 0 Try.underlying30
  rw [show ([] : List UInt8).length = 0 from rfl]
  go_enter Try.func121, Try.ntmps121
  go_wp2_with (at_builtin; refine wpList_append_own _ rfl (.tmp 5) (.tmp 6) 30 rfl w.heap.size 5 i0 (.int .u8 0) 1 1 Try.underlying30 HI.out HZ0.out HZ1.out HZ2.out rfl (by decide) _ _ _ rfl (made0 w) a 0 c [] rfl rfl (by intro j u hu; simp at hu) (by intro u hu; simp at hu) (by unfold maxLen; omega) (by omega) (by simp) ?_; intro v' w1 hown1 hgrow _; have O1 := Lib.hid (own_nil_app (l := []) hown1); have B1 := Lib.hid (made_below hgrow); clear hown1 hgrow)
  go_ret
  exact ⟨_, rfl, O1.out, B1.out⟩

set_option maxHeartbeats 1000000 in
theorem clone_some (b off : Nat) (l : List UInt8) (c : Nat) (hl : l.length ≤ 1000000) (w : World) (hc : ∀ j (hj : j < l.length), w.cell? ⟨b, off + j, none⟩ = some (.int .u8 (l[j].toNat : Int))) :
    Calls Try.prog 121 #[.slice (some ⟨b, off, none⟩) l.length c] w fun e w' => ∃ v, e = .returned v ∧ Own1 w.heap.size v l w' ∧ Below w.heap.size w w' := by
  obtain ⟨i0, hi, hz0, hz1, hz2⟩ := info_parts Try.info5
  have HI := Lib.hid hi
  have HZ0 := Lib.hid hz0
  have HZ1 := Lib.hid hz1
  have HZ2 := Lib.hid hz2
  have HC := Lib.hid hc
  clear hi hz0 hz1 hz2 hc
  go_enter Try.func121, Try.ntmps121
  have hn := fun W : World => Lib.run_eql_slice_nil (P := Try.prog) W 30 5 (some ⟨b, off, none⟩) l.length c 0 0 Try.underlying30
  have hcs := Lib.hid (src_at HC.out (W := w.alloc (.cells #[] 5)) ((Below.refl w.heap.size w).alloc (Nat.le_refl _) _))
  go_wp2_with (at_builtin; refine wpList_append_own _ rfl (.tmp 5) (.tmp 6) 30 rfl w.heap.size 5 i0 (.int .u8 0) 1 1 Try.underlying30 HI.out HZ0.out HZ1.out HZ2.out rfl (by decide) _ _ _ rfl (made0 w) ⟨b, off, none⟩ l.length c (bcs l) rfl (by rw [bcs_len, Nat.mul_one]) hcs.out (bcs_one _) (by unfold maxLen; omega) (by omega) (by simp) ?_; intro v' w1 hown1 hgrow _; have O1 := Lib.hid (own_nil_app hown1); have B1 := Lib.hid (made_below hgrow); clear hown1 hgrow hcs)
  go_ret
  exact ⟨_, rfl, O1.out, B1.out⟩

theorem clone_any (A : Option Addr) (l : List UInt8) (c : Nat) (hc0 : A = none → c = 0) (hl : l.length ≤ 1000000) (w : World) (h : RB w A l) :
    Calls Try.prog 121 #[.slice A l.length c] w fun e w' => ∃ v, e = .returned v ∧ Own1 w.heap.size v l w' ∧ Below w.heap.size w w' := by
  cases A with
  | none =>
    have : l = [] := by
      cases l with
      | nil => rfl
      | cons x l => obtain ⟨b, off, e, _⟩ := h (by simp); cases e
    subst this
    rw [hc0 rfl]
    exact (clone_nil 0 w).mono fun e w' ⟨he, hw⟩ => ⟨_, he, by rw [hw]; exact World.ownsRow_nil _ _ _ _, by rw [hw]; exact Below.refl _ _⟩
  | some a =>
    by_cases h0 : 0 < l.length
    · obtain ⟨b, off, e, hc⟩ := h h0
      cases e
      exact clone_some b off l c hl w hc
    · have : l = [] := by
        cases l with
        | nil => rfl
        | cons x l => simp at h0
      subst this
      obtain ⟨b, off, spot⟩ := a
      exact clone_zero ⟨b, off, spot⟩ c w

set_option maxHeartbeats 1000000 in
theorem wbytes_any (base B : Nat) (l : List UInt8) (hl : l.length ≤ 1000000) (w : World) (h : Wr base B l w) :
    Calls Try.prog 86 #[.pointer (some ⟨B, 0, none⟩)] w fun e w' => ∃ v, e = .returned v ∧ Own1 w.heap.size v l w' ∧ Below w.heap.size w w' := by
  obtain ⟨hb, v0, hB0, hO0⟩ := h
  obtain ⟨A, c, hv, hrb⟩ := hO0.reads
  have hc0 : A = none → c = 0 := by
    intro hA
    unfold Own1 at hO0
    rcases hO0.2 with ⟨e, _⟩ | ⟨g, cap, cur, e, _⟩
    · rw [hv] at e; injection e
    · rw [hv, hA] at e; injection e with e1; cases e1
  subst hv
  have c0 := cell_heap (j := 0) hB0 rfl
  have HCL := Lib.hid (clone_any A l c hc0 hl w hrb)
  clear hB0 hO0 hrb hc0
  go_enter Try.func86, Try.ntmps86
  go_wp2_with fail
  refine HCL.out.mono ?_
  rintro e w1 ⟨v, rfl, ho, hb1⟩
  have HO := Lib.hid ho
  have HB := Lib.hid hb1
  clear ho hb1
  go_wp2_with fail
  go_ret
  exact ⟨_, rfl, HO.out, HB.out⟩

theorem bcella {W w1 : World} (hb : Below W.heap.size W w1) {a : Addr} {v : Value} (h : W.cell? a = some v) : w1.cell? a = some v := (hb.cell (World.block_lt_of_cell? W _ h)).trans h

set_option maxHeartbeats 1000000 in
theorem long_get (a : Addr) (z : Int) (w : World) (h : w.cell? a = some (.int .i64 z)) :
    Calls Try.prog 85 #[.agg #[.pointer (some a), .pointer none]] w fun e w' => e = .returned (.int .i64 z) ∧ Below w.heap.size w w' := by
  have h' := (bcella ((Below.refl w.heap.size w).alloc (Nat.le_refl _) (.cells #[.pointer (some a), .pointer none] 116)) h)
  go_enter Try.func85, Try.ntmps85
  go_wp2
  go_ret
  exact ⟨rfl, (Below.refl w.heap.size w).alloc (Nat.le_refl _) _⟩
set_option maxHeartbeats 1000000 in
theorem short_get (a : Addr) (z : Int) (w : World) (h : w.cell? a = some (.int .i64 z)) :
    Calls Try.prog 85 #[.agg #[.pointer none, .pointer (some a)]] w fun e w' => e = .returned (.int .i64 z) ∧ Below w.heap.size w w' := by
  have h' := (bcella ((Below.refl w.heap.size w).alloc (Nat.le_refl _) (.cells #[.pointer none, .pointer (some a)] 116)) h)
  go_enter Try.func85, Try.ntmps85
  go_wp2
  go_ret
  exact ⟨rfl, (Below.refl w.heap.size w).alloc (Nat.le_refl _) _⟩

/-- A field as the program names it. -/
def cvP (lg : Bool) (a : Addr) : Value := .pointer (if lg then some a else none)
theorem cell_get (lg : Bool) (a : Addr) (z : Int) (w : World) (h : w.cell? a = some (.int .i64 z)) :
    Calls Try.prog 85 #[.agg #[cvP lg a, cvP (!lg) a]] w fun e w' => e = .returned (.int .i64 z) ∧ Below w.heap.size w w' := by
  cases lg
  · exact short_get a z w h
  · exact long_get a z w h

set_option maxHeartbeats 1000000 in
/-- Encode's closure over the writer's variable at block P. -/
theorem num1_any (n : Int) (h0 : 0 ≤ n) (hn : n ≤ 9223372036854775807) (P base B : Nat) (l : List UInt8) (hl0 : l.length ≤ 1000000) (w : World) (hP : w.heap[P]? = some (.cells #[.pointer (some ⟨B, 0, none⟩)] 132 (0, 0))) (h : Wr base B l w) (hw : base ≤ w.heap.size) :
    Calls Try.prog 83 #[.int .i64 n, .pointer (some ⟨P, 0, none⟩)] w fun e w' => ∃ v, e = .returned v ∧ Wr base B (l ++ numL n.toNat) w' ∧ Below base w w' ∧ Kept B w w' := by
  have HW := Lib.hid (wnum_any n.toNat (by omega) base B l hl0 w h hw)
  rw [show ((n.toNat : Nat) : Int) = n by omega] at HW
  have c0 := cell_heap (j := 0) hP rfl
  clear h hP
  go_enter Try.func83, Try.ntmps83
  go_wp2_with fail
  refine HW.out.mono ?_
  rintro e w1 ⟨rfl, h1, h2, h3⟩
  have H1 := Lib.hid h1
  have H2 := Lib.hid h2
  have H3 := Lib.hid h3
  clear h1 h2 h3
  go_wp2_with fail
  go_end0
  exact ⟨_, rfl, H1.out, H2.out, H3.out⟩
end Go.Proofs.Ythhkcckikmldcaa
