/-
  Session: the contracts of Changes and of the function value that it hands back (an iterator over the rows at which the phase turns).
-/
import Derived.RangeFuncNested
import Derived.RangeFuncBound
import Derived.RangeFuncCalls
import Derived.RangeFuncLeaves
import Derived.RangeFuncBox
import Derived.Shelf.Abstract
import Derived.Shelf.RegionOpen
import Derived.OwnWalkIn
import Derived.TacticsInMore
import Derived.LoopNIn
import Derived.LoopIn
import Derived.Test.YthhkcckikmldcaaChg1
set_option linter.unusedVariables false
set_option linter.unusedSimpArgs false
namespace Go.Proofs.Ythhkcckikmldcaa
open Go.RowKit Go.Shelf

attribute [local go_sem] Oper.semAt_some

def enc2 (x : Int × Int) : Array Value := #[.int .i64 x.1, .int .i64 x.2]
theorem chgs_step (T F : Nat → Int) (k : Nat) : chgs T F k <+: chgs T F (k + 1) := by
  show _ <+: (if F k = prv F k then chgs T F k else chgs T F k ++ [(T k, F k)])
  split
  · exact List.prefix_refl _
  · exact List.prefix_append _ _
theorem chgs_prefix (T F : Nat → Int) (k m : Nat) : chgs T F k <+: chgs T F (k + m) := by
  induction m with
  | zero => exact List.prefix_refl _
  | succ m ih => exact ih.trans (chgs_step T F (k + m))

set_option maxHeartbeats 1000000 in
theorem changes_any (A : Option Addr) (n c : Nat) (w : World) :
    Calls Try.prog 37 #[.slice A n c] w fun e w' => e = .returned (.func (.func 95) #[] #[.pointer (some ⟨w.heap.size, 0, none⟩)]) ∧ w' = w.alloc (.cells #[.slice A n c] 22) := by
  go_enter Try.func37, Try.ntmps37
  go_wp2
  go_ret
  exact ⟨rfl, rfl⟩

set_option maxRecDepth 100000 in
set_option maxHeartbeats 2000000 in
theorem changes1_in (Fe : Fence) (f : Nat) (h95 : Fe.fn 95) (hro : Fe.round = none) (hf : 1 ≤ f) (l Bs n₀ : Nat) (A : Option Addr) (n c : Nat) (T F : Nat → Int) (hs : n ≤ 1000)
    (J Jx : List (Int × Int) → World → Prop) (W : World) (hJa : AbidesFrom W.heap.size J)
    (hY : ∀ pre x W1, J pre W1 → pre.length < n → YieldAt Fe (f - 1) Try.prog l (enc2 x) W1 fun e W' =>
      (e = .returned (.bool true) ∧ J (pre ++ [x]) W' ∧ Below n₀ W1 W') ∨ (e = .returned (.bool false) ∧ Jx (pre ++ [x]) W'))
    (hBs : W.cell? ⟨Bs, 0, none⟩ = some (.slice A n c)) (hn₀ : n₀ ≤ W.heap.size)
    (hR : 0 < n → ∃ b off, A = some ⟨b, off, none⟩ ∧ b < n₀ ∧ (∀ i, i < n → W.cell? ⟨b, off + i * 2, none⟩ = some (.int .i64 (T i))) ∧ (∀ i, i < n → W.cell? ⟨b, off + i * 2 + 1, none⟩ = some (.int .i64 (F i)))) (h0 : J [] W) :
    CallsIn Fe f Try.prog 95 #[.func (.yield l) #[] #[], .pointer (some ⟨Bs, 0, none⟩)] W fun e W' => (∃ v, e = .returned v) ∧
      ((∃ ys, ys = chgs T F n ∧ J ys W') ∨ (∃ pre, (∃ k, k ≤ n ∧ pre = chgs T F k) ∧ Jx pre W')) := by
  have HR := Lib.hid hR
  clear hR
  refine callsIn_of_wp Try.func95 rfl h95 ?_ hro
  simp only [Try.ntmps95, List.size_toArray, List.length_cons, List.length_nil, Nat.reduceAdd, Nat.reduceSub, Array.replicate_succ, Array.replicate_zero, List.push_toArray, List.append_toArray, List.nil_append, List.cons_append]
  gi_wp2
  gi_loopw [3, 8] (fun p i wr => ∃ k : Nat, k ≤ n ∧ i = .int .i64 k ∧ p = .int .i64 (prv F k) ∧ Hid (J (chgs T F k) wr) ∧ Hid (Below n₀ W wr))
    (fun _ i _ => n - (intOf i).toNat)
  case atStart => exact ⟨0, Nat.zero_le _, rfl, rfl, Lib.hid h0, Lib.hid (Below.refl _ _)⟩
  case round =>
    obtain ⟨k, hk, rfl, rfl, HJ, HB⟩ := hrel
    by_cases hlt : k < n
    · have hlt' : (k : Int) < (n : Int) := by omega
      obtain ⟨b, off, rfl, hbn, hT, hF⟩ := HR.out (by omega)
      have h1 := (HB.out.cell (p := ⟨b, off + k * 2, none⟩) hbn).trans (hT k hlt)
      have h2 := (HB.out.cell (p := ⟨b, off + k * 2 + 1, none⟩) hbn).trans (hF k hlt)
      clear hT hF
      have J1 := Lib.hid (hJa _ _ _ none HJ.out (World.grownBy_alloc wr (.cells #[.int .i64 (T k), .int .i64 (F k)] 53) none) (fun r e => by cases e))
      have B1 := Lib.hid (HB.out.alloc (Nat.le_trans hn₀ HB.out.size) (.cells #[.int .i64 (T k), .int .i64 (F k)] 53))
      by_cases ht : F k = prv F k
      · have e := Lib.hid (show chgs T F (k + 1) = chgs T F k from if_pos ht)
        have ht' : (F k == prv F k) = true := by simp [ht]
        have e2 := Lib.hid (show prv F (k + 1) = prv F k from ht)
        clear ht
        gi_wp2
        go_roundw
        case rel => exact ⟨k + 1, by omega, by go_num, by rw [e2.out], by rw [e.out]; exact J1, B1⟩
        case measure => simp [intOf]; omega
      · have e := Lib.hid (show chgs T F (k + 1) = chgs T F k ++ [(T k, F k)] from if_neg ht)
        have ht' : (F k == prv F k) = false := by simp [ht]
        have hl := chgs_len T F k
        clear ht
        obtain ⟨fn, tmps, assign, body, hy, hR⟩ := hY _ (T k, F k) _ J1.out (by omega)
        dsimp only [enc2] at hy
        gi_wp2
        refine hR.mono ?_
        rintro e W3 (⟨rfl, hJ3, hk3⟩ | ⟨rfl, hJx3⟩)
        · gi_wp2
          go_roundw
          case rel => exact ⟨k + 1, by omega, by go_num, rfl, by rw [e.out]; exact Lib.hid hJ3, Lib.hid (B1.out.trans hk3)⟩
          case measure => simp [intOf]; omega
        · gi_wp2
          refine bodyPost_ret (results_none rfl _ _ _) rfl ?_
          exact ⟨⟨_, rfl⟩, .inr ⟨_, ⟨k + 1, by omega, e.out.symm⟩, hJx3⟩⟩
    · obtain rfl : k = n := by omega
      gi_wp2
      go_end0
      exact ⟨⟨_, rfl⟩, .inl ⟨_, rfl, HJ.out⟩⟩

theorem changes_stops (Fe : Fence) (f : Nat) (h95 : Fe.fn 95) (hro : Fe.round = none) (hf : 1 ≤ f) (Bs n₀ : Nat) (A : Option Addr) (n c : Nat) (T F : Nat → Int) (hs : n ≤ 1000) (w : World)
    (hBl : Bs < w.heap.size) (hBs : w.cell? ⟨Bs, 0, none⟩ = some (.slice A n c)) (hn₀ : n₀ ≤ w.heap.size)
    (hR : 0 < n → ∃ b off, A = some ⟨b, off, none⟩ ∧ b < n₀ ∧ (∀ i, i < n → w.cell? ⟨b, off + i * 2, none⟩ = some (.int .i64 (T i))) ∧ (∀ i, i < n → w.cell? ⟨b, off + i * 2 + 1, none⟩ = some (.int .i64 (F i)))) :
    SeqStopsK Fe f Try.prog 95 #[.pointer (some ⟨Bs, 0, none⟩)] enc2 (Below n₀) (fun ys => ys = chgs T F n) (fun pre => ∃ k, k ≤ n ∧ pre = chgs T F k) n w := fun l J Jx W hW hJ hJx hY h0 =>
  changes1_in Fe f h95 hro hf l Bs n₀ A n c T F hs J Jx W hJ hY ((hW.cell (p := ⟨Bs, 0, none⟩) hBl).trans hBs) (Nat.le_trans hn₀ hW.size) (fun hn => by
    obtain ⟨b, off, e, hb, h1, h2⟩ := hR hn
    exact ⟨b, off, e, hb, fun i hi => (hW.cell (p := ⟨b, off + i * 2, none⟩) (by show b < _; omega)).trans (h1 i hi), fun i hi => (hW.cell (p := ⟨b, off + i * 2 + 1, none⟩) (by show b < _; omega)).trans (h2 i hi)⟩) h0
end Go.Proofs.Ythhkcckikmldcaa
