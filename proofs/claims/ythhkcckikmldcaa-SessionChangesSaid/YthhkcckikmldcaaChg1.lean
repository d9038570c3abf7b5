/-
  Session: the contract of the document's Changes (a slice of the rows at which the phase turns).
-/
import Derived.Test.YthhkcckikmldcaaSes5
import Derived.Deep.AppendLies
import Derived.Deep.RegionHeld3
import Derived.Laws.Rows
set_option linter.unusedVariables false
set_option linter.unusedSimpArgs false
namespace Go.Proofs.Ythhkcckikmldcaa
open Go.RowKit

/-- The phase ahead of row k. -/
def prv (F : Nat → Int) : Nat → Int
  | 0 => 0
  | k + 1 => F k
/-- The rows below k at which the phase turns. -/
def chgs (T F : Nat → Int) : Nat → List (Int × Int)
  | 0 => []
  | k + 1 => if F k = prv F k then chgs T F k else chgs T F k ++ [(T k, F k)]
theorem chgs_len (T F : Nat → Int) (k : Nat) : (chgs T F k).length ≤ k := by
  induction k with
  | zero => exact Nat.le_refl _
  | succ k ih => unfold chgs; split <;> (try rw [List.length_append, List.length_singleton]) <;> omega
/-- The cells of pairs. -/
def flat : List (Int × Int) → List Value
  | [] => []
  | p :: l => .int .i64 p.1 :: .int .i64 p.2 :: flat l
theorem flat_snoc (l : List (Int × Int)) (p : Int × Int) : flat (l ++ [p]) = flat l ++ [.int .i64 p.1, .int .i64 p.2] := by
  induction l with
  | nil => rfl
  | cons q l ih => simp [flat, ih]
theorem flat_len (l : List (Int × Int)) : (flat l).length = l.length * 2 := by
  induction l with
  | nil => rfl
  | cons q l ih => simp [flat, ih]; omega
theorem flat_get (l : List (Int × Int)) (j : Nat) (h : j < l.length) : (flat l)[j * 2]? = some (.int .i64 l[j].1) ∧ (flat l)[j * 2 + 1]? = some (.int .i64 l[j].2) := by
  induction l generalizing j with
  | nil => exact absurd h (Nat.not_lt_zero _)
  | cons q l ih =>
    cases j with
    | zero => exact ⟨rfl, rfl⟩
    | succ j =>
      have := ih j (by simpa using h)
      rw [show (j + 1) * 2 = j * 2 + 1 + 1 by omega]
      exact this

theorem Try.info53 : (Try.prog.info? 53).map (fun i => (i.zero, i.size, i.bytes)) = some (some (.agg #[.int .i64 0, .int .i64 0]), 2, 16) := by kernel_rfl

/-- A slice of the call's own that holds pairs. -/
def Own2 (base : Nat) (v : Value) (l : List (Int × Int)) (w : World) : Prop := w.ownsRow base 53 2 v l.length (flat l)

theorem snoc_below {w wr w1 : World} {o : Obj} {v : Value} (B : Nat) (hB : B ≤ w.heap.size) (h : Below B w wr) (hg : (wr.alloc o).grownBy w1 v.ownBlock) (hl : ∀ k, v.ownBlock = some k → B ≤ k ∧ k < wr.heap.size) : Below B w w1 :=
  (h.alloc (Nat.le_trans hB h.size) o).grown hg (by have := h.size; simp; omega) (fun k e => (hl k e).1)

theorem news2 (W : World) (x y : Int) : ∀ j u, [Value.int .i64 x, .int .i64 y][j]? = some u → (W.alloc (.cells #[.int .i64 x, .int .i64 y] 53)).cell? ((⟨W.heap.size, 0, none⟩ : Addr).add j) = some u :=
  World.news_of_block (cs := #[.int .i64 x, .int .i64 y]) (t := 53) (fr := (0, 0)) (heap_new W _)
theorem news2_one (x y : Int) : ∀ u ∈ [Value.int .i64 x, .int .i64 y], u.oneCell' = true := by
  intro u hu; simp at hu; rcases hu with rfl | rfl <;> rfl
theorem snoc_own {B : Nat} {v : Value} {l : List (Int × Int)} {w : World} (x y : Int) (h : w.ownsRow B 53 2 v (l.length + 1) (flat l ++ [.int .i64 x, .int .i64 y])) : Own2 B v (l ++ [(x, y)]) w := by
  unfold Own2; rw [flat_snoc, List.length_append]; exact h

set_option maxHeartbeats 2000000 in
theorem refChanges_any (A : Option Addr) (n c : Nat) (T F : Nat → Int) (w : World) (h : Rows2 w A n T F) (hs : n ≤ 1000) :
    Calls Try.prog 36 #[.slice A n c] w fun e w' => ∃ v, e = .returned v ∧ Own2 w.heap.size v (chgs T F n) w' ∧ Below w.heap.size w w' := by
  obtain ⟨hn, h⟩ := h
  have HC := Lib.hid h
  obtain ⟨i0, hi, hz0, hz1, hz2⟩ := info_parts Try.info53
  have HI := Lib.hid hi
  have HZ0 := Lib.hid hz0
  have HZ1 := Lib.hid hz1
  have HZ2 := Lib.hid hz2
  clear h hi hz0 hz1 hz2
  go_enter Try.func36, Try.ntmps36
  go_wp2
  go_loopw [3, 4, 5] (fun v p i wr => ∃ k : Nat, k ≤ n ∧ i = .int .i64 k ∧ p = .int .i64 (prv F k) ∧ Hid (Own2 w.heap.size v (chgs T F k) wr) ∧ Hid (Below w.heap.size w wr)) (fun _ _ i _ => n - (intOf i).toNat)
  case atStart => exact ⟨0, Nat.zero_le _, rfl, rfl, Lib.hid (World.ownsRow_nil _ _ _ _), Lib.hid (Below.refl _ _)⟩
  case round =>
    obtain ⟨k, hk, rfl, rfl, HO, HB⟩ := hrel
    by_cases hlt : k < n
    · have hlt' : (k : Int) < (n : Int) := by omega
      obtain ⟨b, off, rfl, hT, hF⟩ := HC.out (by omega)
      have h1 := bcell HB.out (hT k hlt)
      have h2 := bcell HB.out (hF k hlt)
      have hblk := World.block_lt_of_cell? w _ (hT k hlt)
      clear hT hF
      by_cases ht : F k = prv F k
      · have e := Lib.hid (show chgs T F (k + 1) = chgs T F k from if_pos ht)
        have HE := Lib.hid ht
        have ht' : (F k == prv F k) = true := by simp [ht]
        have hf' : (F k != prv F k) = false := by simp [ht]
        have e2 := Lib.hid (show prv F (k + 1) = prv F k from ht)
        clear ht
        go_wp2
        go_roundw
        case rel => exact ⟨k + 1, by omega, by go_num, by rw [e2.out], by rw [e.out]; exact HO, HB⟩
        case measure => simp [intOf]; omega
      · have e := Lib.hid (show chgs T F (k + 1) = chgs T F k ++ [(T k, F k)] from if_neg ht)
        have ht' : (F k == prv F k) = false := by simp [ht]
        have hf' : (F k != prv F k) = true := by simp [ht]
        have hl := chgs_len T F k
        have hb3 := HB.out.size
        have hown := HO.out
        unfold Own2 at hown
        clear ht
        go_wp2_with (at_builtin; refine wpList_append_own _ rfl (.tmp 19) (.tmp 24) 22 rfl w.heap.size 53 i0 (.agg #[.int .i64 0, .int .i64 0]) 2 16 Try.underlying22 HI.out HZ0.out HZ1.out HZ2.out rfl (by decide) _ _ _ rfl (hown.alloc _) ⟨wr.heap.size, 0, none⟩ 1 1 [.int .i64 (T k), .int .i64 (F k)] rfl rfl (news2 wr _ _) (news2_one _ _) (by unfold maxLen; omega) (by omega) (by simp; omega) ?_; intro v' w1 hown1 hgrow _; have B1 := Lib.hid (snoc_below w.heap.size (Nat.le_refl _) HB.out hgrow hown.lt); have O1 := Lib.hid (snoc_own (T k) (F k) hown1); have h3 := (B1.out.cell (p := ⟨b, off + k * 2 + 1, none⟩) hblk).trans (HB.out.cell (p := ⟨b, off + k * 2 + 1, none⟩) hblk).symm |>.trans h2; clear hown hown1 hgrow h1 h2 hb3 hl)
        go_roundw
        case rel => exact ⟨k + 1, by omega, by go_num, rfl, by rw [e.out]; exact O1, B1⟩
        case measure => simp [intOf]; omega
    · have : k = n := by omega
      subst this
      go_wp2
      go_ret
      exact ⟨_, rfl, HO.out, HB.out⟩
end Go.Proofs.Ythhkcckikmldcaa
