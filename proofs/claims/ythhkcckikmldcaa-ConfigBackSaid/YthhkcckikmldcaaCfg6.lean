/-
  Config: the contract of the law's Plain. (Written by gen_cfg6.py, a program of this session's own.)
-/
import Derived.Test.YthhkcckikmldcaaCfg5
import Derived.OwnWalk
import Derived.Deep.AppendLies
import Derived.Laws.Rows
import Derived.Lib.SmallJoins
set_option linter.unusedVariables false
set_option linter.unusedSimpArgs false
namespace Go.Proofs.Ythhkcckikmldcaa
open Go.RowKit

def plS (j : Nat) : Int := [5, 1000, 2000, 500, 20, 100, 3, 10, 5, 2, 500, 500, 1, 40, 12, 1000].getD j 0
def plR (i j : Nat) : Int := ([[5, 1], [10, 2], [500, 0]].getD i []).getD j 0
def plX (j : Nat) : Int := [10000, 700, 1300, 2000, 15, 30].getD j 0
def symL : List Value := [.int .i64 5, .int .i64 1000, .int .i64 2000, .int .i64 500, .int .i64 20, .int .i64 100, .int .i64 3, .int .i64 10, .int .i64 5, .int .i64 2, .int .i64 500, .int .i64 500, .int .i64 1, .int .i64 40, .int .i64 12, .int .i64 1000]
def symsL : Nat → List Value
  | 0 => []
  | k + 1 => symsL k ++ symL
theorem symsL_get (k i j : Nat) (hi : i < k) (hj : j < 16) : (symsL k)[i * 16 + j]? = some (.int .i64 (plS j)) := by
  have hlen : ∀ k, (symsL k).length = k * 16 := fun k => by
    induction k with
    | zero => rfl
    | succ k ih => simp [symsL, ih, symL]; omega
  induction k with
  | zero => exact absurd hi (Nat.not_lt_zero _)
  | succ k ih =>
    have hl := hlen k
    simp only [symsL]
    by_cases e : i < k
    · rw [List.getElem?_append_left (by omega)]
      exact ih e
    · rw [List.getElem?_append_right (by omega), hl, show i * 16 + j - k * 16 = j by omega]
      have : j = 0 ∨ j = 1 ∨ j = 2 ∨ j = 3 ∨ j = 4 ∨ j = 5 ∨ j = 6 ∨ j = 7 ∨ j = 8 ∨ j = 9 ∨ j = 10 ∨ j = 11 ∨ j = 12 ∨ j = 13 ∨ j = 14 ∨ j = 15 := by omega
      rcases this with rfl | rfl | rfl | rfl | rfl | rfl | rfl | rfl | rfl | rfl | rfl | rfl | rfl | rfl | rfl | rfl <;> rfl

/-- The blocks that Plain lays: its result's, its symbol's, its rows', its configuration's. -/
structure PlW (w wr : World) (v : Value) (k : Nat) : Prop where
  below : Below w.heap.size w wr
  b0 : wr.heap[w.heap.size]? = some (.cells #[.slice none 0 0, .slice none 0 0, .int .i64 0, .int .i64 0, .int .i64 0, .int .i64 0, .int .i64 0, .int .i64 0] 35 (0, 0))
  b1 : wr.heap[w.heap.size + 1]? = some (.cells #[.int .i64 5, .int .i64 1000, .int .i64 2000, .int .i64 500, .int .i64 20, .int .i64 100, .int .i64 3, .int .i64 10, .int .i64 5, .int .i64 2, .int .i64 500, .int .i64 500, .int .i64 1, .int .i64 40, .int .i64 12, .int .i64 1000] 56 (0, 0))
  b2 : wr.heap[w.heap.size + 1 + 1]? = some (.cells #[.int .i64 5, .int .i64 1, .int .i64 10, .int .i64 2, .int .i64 500, .int .i64 0] 53 (0, 0))
  b3 : wr.heap[w.heap.size + 1 + 1 + 1]? = some (.cells #[v, .slice (some ⟨w.heap.size + 1 + 1, 0, none⟩) 3 3, .int .i64 10000, .int .i64 700, .int .i64 1300, .int .i64 2000, .int .i64 15, .int .i64 30] 35 (0, 0))
  big : w.heap.size + 4 ≤ wr.heap.size
  own : wr.ownsRow (w.heap.size + 4) 56 16 v k (symsL k)

theorem alloc_old {w : World} {k : Nat} {x : Obj} (o : Obj) (h : w.heap[k]? = some x) : (w.alloc o).heap[k]? = some x := by
  have := lt_of_heap h
  rw [Below.heap_alloc _ _ _ this]
  exact h
theorem alloc_new {w : World} {k : Nat} (o : Obj) (h : k = w.heap.size) : (w.alloc o).heap[k]? = some o := by subst h; exact heap_new w o
theorem plW_start (w : World) : PlW w ((((w.alloc (.cells #[.slice none 0 0, .slice none 0 0, .int .i64 0, .int .i64 0, .int .i64 0, .int .i64 0, .int .i64 0, .int .i64 0] 35)).alloc (.cells #[.int .i64 5, .int .i64 1000, .int .i64 2000, .int .i64 500, .int .i64 20, .int .i64 100, .int .i64 3, .int .i64 10, .int .i64 5, .int .i64 2, .int .i64 500, .int .i64 500, .int .i64 1, .int .i64 40, .int .i64 12, .int .i64 1000] 56)).alloc (.cells #[.int .i64 5, .int .i64 1, .int .i64 10, .int .i64 2, .int .i64 500, .int .i64 0] 53)).alloc (.cells #[.slice none 0 0, .slice (some ⟨w.heap.size + 1 + 1, 0, none⟩) 3 3, .int .i64 10000, .int .i64 700, .int .i64 1300, .int .i64 2000, .int .i64 15, .int .i64 30] 35)) (.slice none 0 0) 0 := by
  refine ⟨below_al (below_al (below_al (below_al (Below.refl _ _) _) _) _) _, ?_, ?_, ?_, ?_, ?_, ?_⟩
  · exact alloc_old _ (alloc_old _ (alloc_old _ (heap_new _ _)))
  · exact alloc_old _ (alloc_old _ (alloc_new _ (by simp)))
  · exact alloc_old _ (alloc_new _ (by simp))
  · exact alloc_new _ (by simp)
  · simp
  · exact ⟨rfl, Or.inl ⟨rfl, rfl⟩⟩
theorem frozen_of {w : World} {B : Nat} {cs : Array Value} {t : TypeId} (h : w.heap[B]? = some (.cells cs t (0, 0))) (j : Nat) : w.frozen? ⟨B, j, none⟩ = false := by
  unfold World.frozen?
  rw [h]
  simp

theorem PlW.ownNe {w wr : World} {v : Value} {k j : Nat} (h : PlW w wr v k) (hj : j < w.heap.size + 4) : some j ≠ v.ownBlock := by
  rcases h.own.2 with ⟨rfl, _⟩ | ⟨g, cap, cur, rfl, hb, _⟩
  · simp [Value.ownBlock]
  · simp only [Value.ownBlock]
    intro e
    injection e with e
    omega
theorem PlW.next {w wr w1 : World} {v v' : Value} {k : Nat} (h : PlW w wr v k) (hown : w1.ownsRow (w.heap.size + 4) 56 16 v' (k + 1) (symsL k ++ symL)) (hg : (wr.alloc (.cells #[.int .i64 5, .int .i64 1000, .int .i64 2000, .int .i64 500, .int .i64 20, .int .i64 100, .int .i64 3, .int .i64 10, .int .i64 5, .int .i64 2, .int .i64 500, .int .i64 500, .int .i64 1, .int .i64 40, .int .i64 12, .int .i64 1000] 56)).grownBy w1 v.ownBlock)
    (h3 : w1.heap[w.heap.size + 1 + 1 + 1]? = some (.cells #[v, .slice (some ⟨w.heap.size + 1 + 1, 0, none⟩) 3 3, .int .i64 10000, .int .i64 700, .int .i64 1300, .int .i64 2000, .int .i64 15, .int .i64 30] 35 (0, 0))) :
    PlW w (w1.setCell ⟨w.heap.size + 1 + 1 + 1, 0, none⟩ v') v' (k + 1) := by
  have big := h.big
  have hk : ∀ j o, j < w.heap.size + 3 → wr.heap[j]? = some o → (w1.setCell ⟨w.heap.size + 1 + 1 + 1, 0, none⟩ v').heap[j]? = some o := fun j o hj ho => by
    rw [heap_setCell_other _ _ _ _ (by simp; omega), hg.block _ (by simp; omega) (h.ownNe (by omega)), alloc_old _ ho]
  refine ⟨?_, hk _ _ (by omega) h.b0, hk _ _ (by omega) h.b1, hk _ _ (by omega) h.b2, ?_, ?_, ?_⟩
  · exact (((below_al h.below _).grown hg (by simp; omega) (fun j e => by
      have := h.ownNe (j := j)
      by_cases c : j < w.heap.size + 4
      · exact absurd e.symm (this c)
      · omega)).setCell (by simp; omega) _)
  · have := heap_setCell_same w1 (w.heap.size + 1 + 1 + 1) 0 _ 35 v' h3
    simpa using this
  · have := hg.size; simp at this ⊢; omega
  · exact ownsRow_setCell_below hown (by simp) _

theorem plain_cfg {w wr W' : World} {g cap N : Nat} (h : PlW w wr (.slice (some ⟨g, 0, none⟩) N cap) N) (hN0 : 0 < N) (hoff : ∀ j, j ≠ w.heap.size → W'.heap[j]? = wr.heap[j]?) :
    CfgIn W' (some ⟨g, 0, none⟩) N cap (some ⟨w.heap.size + 1 + 1, 0, none⟩) 3 3 (fun _ => plS) plR plX := by
  rcases h.own.2 with ⟨h1, _⟩ | ⟨g', cap', cur, h1, hb, hh, hnc, hcm, hsz, htk⟩
  · cases h1
  · simp only [Value.slice.injEq, Option.some.injEq, Addr.mk.injEq, and_true, true_and] at h1
    obtain ⟨rfl, rfl⟩ := h1
    refine ⟨fun _ => ⟨g, 0, rfl, fun i hi j hj => ?_⟩, fun _ => ⟨w.heap.size + 1 + 1, 0, rfl, fun i hi j hj => ?_⟩, hnc, by simpa [maxLen] using hcm, Nat.le_refl _, by omega, fun i hi j hj => ?_, fun i hi j hj => ?_, fun j hj => ?_⟩
    · rw [Nat.zero_add]
      refine cell_heap (cs := cur) (t := 56) (fr := (0, 0)) (by rw [hoff g (by omega)]; exact hh) ?_
      have hg := symsL_get N i j hi hj
      rw [← htk] at hg
      rw [List.getElem?_take_of_lt (by omega)] at hg
      simpa using hg
    · rw [Nat.zero_add]
      refine cell_heap (by rw [hoff (w.heap.size + 1 + 1) (by omega)]; exact h.b2) ?_
      rcases (by omega : i = 0 ∨ i = 1 ∨ i = 2) with rfl | rfl | rfl <;> rcases (by omega : j = 0 ∨ j = 1) with rfl | rfl <;> rfl
    · rcases (by omega : j = 0 ∨ j = 1 ∨ j = 2 ∨ j = 3 ∨ j = 4 ∨ j = 5 ∨ j = 6 ∨ j = 7 ∨ j = 8 ∨ j = 9 ∨ j = 10 ∨ j = 11 ∨ j = 12 ∨ j = 13 ∨ j = 14 ∨ j = 15) with rfl | rfl | rfl | rfl | rfl | rfl | rfl | rfl | rfl | rfl | rfl | rfl | rfl | rfl | rfl | rfl <;> (unfold i64Ok plS; decide)
    · rcases (by omega : i = 0 ∨ i = 1 ∨ i = 2) with rfl | rfl | rfl <;> rcases (by omega : j = 0 ∨ j = 1) with rfl | rfl <;> (unfold i64Ok plR; decide)
    · rcases (by omega : j = 0 ∨ j = 1 ∨ j = 2 ∨ j = 3 ∨ j = 4 ∨ j = 5) with rfl | rfl | rfl | rfl | rfl | rfl <;> (unfold i64Ok plX; decide)

def PlainPost (N : Nat) (w : World) (e : Ending) (w' : World) : Prop := ∃ (b c r d : Nat), e = .returned (.agg #[.slice (some ⟨b, 0, none⟩) N c, .slice (some ⟨r, 0, none⟩) 3 d, .int .i64 10000, .int .i64 700, .int .i64 1300, .int .i64 2000, .int .i64 15, .int .i64 30]) ∧ CfgIn w' (some ⟨b, 0, none⟩) N c (some ⟨r, 0, none⟩) 3 d (fun _ => plS) plR plX ∧ Below w.heap.size w w'

theorem info56 : (Try.prog.info? 56).map (fun i => (i.zero, i.size, i.bytes)) = some (some (.agg #[.int .i64 0, .int .i64 0, .int .i64 0, .int .i64 0, .int .i64 0, .int .i64 0, .int .i64 0, .int .i64 0, .int .i64 0, .int .i64 0, .int .i64 0, .int .i64 0, .int .i64 0, .int .i64 0, .int .i64 0, .int .i64 0]), 16, 128) := by kernel_rfl

set_option maxRecDepth 100000 in
set_option maxHeartbeats 4000000 in
theorem plain_any (N : Nat) (hN0 : 0 < N) (hN : N ≤ 8) (w : World) : Calls Try.prog 70 #[.int .i64 N] w (PlainPost N w) := by
  obtain ⟨i0, hi, hz0, hz1, hz2⟩ := info_parts info56
  have Hhi := Lib.hid hi
  have Hz0 := Lib.hid hz0
  have Hz1 := Lib.hid hz1
  have Hz2 := Lib.hid hz2
  clear hi hz0 hz1 hz2
  go_enter Try.func70, Try.ntmps70
  go_wp2_with fail
  go_loopw [5] (fun s5 wr => ∃ (k : Nat) (v : Value), k ≤ N ∧ s5 = .int .i64 k ∧ Hid (PlW w wr v k)) (fun s5 _ => N - (intOf s5).toNat)
  case atStart => exact ⟨0, _, Nat.zero_le _, rfl, plW_start w⟩
  case round =>
    obtain ⟨k, v, hk, rfl, HW⟩ := hrel
    have c0 : wr.cell? ⟨w.heap.size + 1 + 1 + 1, 0, none⟩ = some v := cell_heap HW.out.b3 rfl
    have big := HW.out.big
    by_cases hlt : k < N
    · have hlt' : (k : Int) < (N : Int) := by omega
      have s0 : wr.cell? ⟨w.heap.size + 1, 0, none⟩ = some (.int .i64 5) := cell_heap HW.out.b1 rfl
      have s1 : wr.cell? ⟨w.heap.size + 1, 1, none⟩ = some (.int .i64 1000) := cell_heap HW.out.b1 rfl
      have s2 : wr.cell? ⟨w.heap.size + 1, 2, none⟩ = some (.int .i64 2000) := cell_heap HW.out.b1 rfl
      have s3 : wr.cell? ⟨w.heap.size + 1, 3, none⟩ = some (.int .i64 500) := cell_heap HW.out.b1 rfl
      have s4 : wr.cell? ⟨w.heap.size + 1, 4, none⟩ = some (.int .i64 20) := cell_heap HW.out.b1 rfl
      have s5 : wr.cell? ⟨w.heap.size + 1, 5, none⟩ = some (.int .i64 100) := cell_heap HW.out.b1 rfl
      have s6 : wr.cell? ⟨w.heap.size + 1, 6, none⟩ = some (.int .i64 3) := cell_heap HW.out.b1 rfl
      have s7 : wr.cell? ⟨w.heap.size + 1, 7, none⟩ = some (.int .i64 10) := cell_heap HW.out.b1 rfl
      have s8 : wr.cell? ⟨w.heap.size + 1, 8, none⟩ = some (.int .i64 5) := cell_heap HW.out.b1 rfl
      have s9 : wr.cell? ⟨w.heap.size + 1, 9, none⟩ = some (.int .i64 2) := cell_heap HW.out.b1 rfl
      have s10 : wr.cell? ⟨w.heap.size + 1, 10, none⟩ = some (.int .i64 500) := cell_heap HW.out.b1 rfl
      have s11 : wr.cell? ⟨w.heap.size + 1, 11, none⟩ = some (.int .i64 500) := cell_heap HW.out.b1 rfl
      have s12 : wr.cell? ⟨w.heap.size + 1, 12, none⟩ = some (.int .i64 1) := cell_heap HW.out.b1 rfl
      have s13 : wr.cell? ⟨w.heap.size + 1, 13, none⟩ = some (.int .i64 40) := cell_heap HW.out.b1 rfl
      have s14 : wr.cell? ⟨w.heap.size + 1, 14, none⟩ = some (.int .i64 12) := cell_heap HW.out.b1 rfl
      have s15 : wr.cell? ⟨w.heap.size + 1, 15, none⟩ = some (.int .i64 1000) := cell_heap HW.out.b1 rfl
      go_wp2_with (at_builtin; refine wpList_append_own _ rfl _ _ 31 rfl (w.heap.size + 4) 56 i0 (.agg #[.int .i64 0, .int .i64 0, .int .i64 0, .int .i64 0, .int .i64 0, .int .i64 0, .int .i64 0, .int .i64 0, .int .i64 0, .int .i64 0, .int .i64 0, .int .i64 0, .int .i64 0, .int .i64 0, .int .i64 0, .int .i64 0]) 16 128 Try.underlying31 Hhi.out Hz0.out Hz1.out Hz2.out rfl (by decide) v k (symsL k) rfl (HW.out.own.alloc _) ⟨wr.heap.size, 0, none⟩ 1 1 symL rfl rfl ?c1 ?c2 ?c3 ?c4 ?c5 ?_)
      case c1 =>
        intro j u hu
        rw [add_at, Nat.zero_add]
        exact cell_new_at wr _ 56 j u (by simpa [symL] using hu)
      case c2 => intro u hu; simp only [symL, List.mem_cons, List.not_mem_nil, or_false] at hu; rcases hu with rfl | rfl | rfl | rfl | rfl | rfl | rfl | rfl | rfl | rfl | rfl | rfl | rfl | rfl | rfl | rfl <;> rfl
      case c3 => simp only [maxLen]; omega
      case c4 => omega
      case c5 => simp; omega
      intro v' w1 hown' hgrow _
      obtain ⟨g, cap, rfl, hg0, hg1⟩ := World.ownsRow.form hown' (by omega)
      have hk3 : w1.heap[w.heap.size + 1 + 1 + 1]? = some (.cells #[v, .slice (some ⟨w.heap.size + 1 + 1, 0, none⟩) 3 3, .int .i64 10000, .int .i64 700, .int .i64 1300, .int .i64 2000, .int .i64 15, .int .i64 30] 35 (0, 0)) := by
        rw [hgrow.block _ (by simp; omega) (HW.out.ownNe (by omega)), alloc_old _ HW.out.b3]
      have z0 := cell_heap (j := 0) hk3 rfl
      have f0 := frozen_of hk3 0
      have HN := Lib.hid (HW.out.next hown' hgrow hk3)
      clear hown' hgrow hk3
      go_wp2_with fail
      go_roundw
      case rel => exact ⟨k + 1, _, by omega, by go_num, HN⟩
      case measure => simp [intOf]; omega
    · obtain rfl : N = k := by omega
      obtain ⟨g, cap, rfl, hg0, hg1⟩ := World.ownsRow.form HW.out.own hN0
      have e0 : wr.cell? ⟨w.heap.size + 1 + 1 + 1, 0, none⟩ = some (.slice (some ⟨g, 0, none⟩) N cap) := cell_heap HW.out.b3 rfl
      have e1 : wr.cell? ⟨w.heap.size + 1 + 1 + 1, 1, none⟩ = some (.slice (some ⟨w.heap.size + 1 + 1, 0, none⟩) 3 3) := cell_heap HW.out.b3 rfl
      have e2 : wr.cell? ⟨w.heap.size + 1 + 1 + 1, 2, none⟩ = some (.int .i64 10000) := cell_heap HW.out.b3 rfl
      have e3 : wr.cell? ⟨w.heap.size + 1 + 1 + 1, 3, none⟩ = some (.int .i64 700) := cell_heap HW.out.b3 rfl
      have e4 : wr.cell? ⟨w.heap.size + 1 + 1 + 1, 4, none⟩ = some (.int .i64 1300) := cell_heap HW.out.b3 rfl
      have e5 : wr.cell? ⟨w.heap.size + 1 + 1 + 1, 5, none⟩ = some (.int .i64 2000) := cell_heap HW.out.b3 rfl
      have e6 : wr.cell? ⟨w.heap.size + 1 + 1 + 1, 6, none⟩ = some (.int .i64 15) := cell_heap HW.out.b3 rfl
      have e7 : wr.cell? ⟨w.heap.size + 1 + 1 + 1, 7, none⟩ = some (.int .i64 30) := cell_heap HW.out.b3 rfl
      have r0 := cell_heap (j := 0) HW.out.b0 rfl
      have r1 := cell_heap (j := 1) HW.out.b0 rfl
      have r2 := cell_heap (j := 2) HW.out.b0 rfl
      have r3 := cell_heap (j := 3) HW.out.b0 rfl
      have r4 := cell_heap (j := 4) HW.out.b0 rfl
      have r5 := cell_heap (j := 5) HW.out.b0 rfl
      have r6 := cell_heap (j := 6) HW.out.b0 rfl
      have r7 := cell_heap (j := 7) HW.out.b0 rfl
      have rf := fun j => frozen_of HW.out.b0 j
      go_wp2_with fail
      refine bodyPost_ret (v := .agg #[.slice (some ⟨g, 0, none⟩) N cap, .slice (some ⟨w.heap.size + 1 + 1, 0, none⟩) 3 3, .int .i64 10000, .int .i64 700, .int .i64 1300, .int .i64 2000, .int .i64 15, .int .i64 30]) (by simp [results, Try.results70, go_sem, *]) rfl ?_
      refine ⟨g, cap, w.heap.size + 1 + 1, 3, rfl, ?_, ?_⟩
      · refine plain_cfg HW.out hN0 (fun j hj => ?_)
        repeat rw [heap_setCell_other _ _ j _ (by simpa using hj)]
      · repeat (refine Below.setCell ?_ (by simp) _)
        exact HW.out.below

end Go.Proofs.Ythhkcckikmldcaa
