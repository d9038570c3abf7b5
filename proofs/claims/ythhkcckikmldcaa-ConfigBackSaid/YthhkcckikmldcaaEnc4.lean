/-
  Config: the contracts of cells and of rest (where a symbol's and a configuration's fields lie), of a cell's get. (Written by gen_enc4.py, a program of this session's own.)
-/
import Derived.Test.YthhkcckikmldcaaEnc3
import Derived.Deep.RegionHeld3
import Derived.Laws.Tables
set_option linter.unusedVariables false
set_option linter.unusedSimpArgs false
namespace Go.Proofs.Ythhkcckikmldcaa
open Go.RowKit

/-- A field's address, where the field is of that type. -/
def ptL (lg : Bool) (a : Addr) : Option Addr := if lg then some a else none
theorem cell_getP (lg : Bool) (a : Addr) (z : Int) (w : World) (h : w.cell? a = some (.int .i64 z)) :
    Calls Try.prog 85 #[.agg #[.pointer (ptL lg a), .pointer (ptL (!lg) a)]] w fun e w' => e = .returned (.int .i64 z) ∧ Below w.heap.size w w' := by
  cases lg
  · exact short_get a z w h
  · exact long_get a z w h

theorem drew_belowE {B : Nat} {a W : World} (h : Below B a W) : Below B a W.drew := below_drewN h 1
theorem drew_heapE {W : World} {b : Nat} {o : Obj} (h : W.heap[b]? = some o) : W.drew.heap[b]? = some o := h
theorem below_setRow {B : Nat} {a W : World} (h : Below B a W) (g : Nat) (hg : B ≤ g) (cs : Array Value) : Below B a (W.setRow g cs) :=
  h.trans ⟨rfl, rfl, rfl, by simp [World.setRow], fun k hk => setRow_other W g k cs (by omega)⟩
def lgS (k : Nat) : Bool := k == 0 || k == 1 || k == 4 || k == 6 || k == 7 || k == 8
def lgX (k : Nat) : Bool := k == 0 || k == 4 || k == 5
/-- What cells gives of the symbol at block b. -/
def cellsV (b : Nat) : Value := .agg #[.pointer (some ⟨b, 0, none⟩), .pointer none, .pointer (some ⟨b, 1, none⟩), .pointer none, .pointer none, .pointer (some ⟨b, 2, none⟩), .pointer none, .pointer (some ⟨b, 3, none⟩), .pointer (some ⟨b, 4, none⟩), .pointer none, .pointer none, .pointer (some ⟨b, 5, none⟩), .pointer (some ⟨b, 6, none⟩), .pointer none, .pointer (some ⟨b, 7, none⟩), .pointer none, .pointer (some ⟨b, 8, none⟩), .pointer none, .pointer none, .pointer (some ⟨b, 9, none⟩), .pointer none, .pointer (some ⟨b, 10, none⟩), .pointer none, .pointer (some ⟨b, 11, none⟩), .pointer none, .pointer (some ⟨b, 12, none⟩), .pointer none, .pointer (some ⟨b, 13, none⟩), .pointer none, .pointer (some ⟨b, 14, none⟩), .pointer none, .pointer (some ⟨b, 15, none⟩)]
/-- What rest gives of the configuration at block b. -/
def restV (b : Nat) : Value := .agg #[.pointer (some ⟨b, 2, none⟩), .pointer none, .pointer none, .pointer (some ⟨b, 3, none⟩), .pointer none, .pointer (some ⟨b, 4, none⟩), .pointer none, .pointer (some ⟨b, 5, none⟩), .pointer (some ⟨b, 6, none⟩), .pointer none, .pointer (some ⟨b, 7, none⟩), .pointer none]
theorem cellsV_at (b k : Nat) (hk : k < 16) : ∀ w, (Instr.index 117 (cellsV b) (.int .i64 (k : Int))).run Try.prog w = .ok (.agg #[.pointer (ptL (lgS k) ⟨b, k, none⟩), .pointer (ptL (!lgS k) ⟨b, k, none⟩)]) w := by
  intro w
  rcases (by omega : k = 0 ∨ k = 1 ∨ k = 2 ∨ k = 3 ∨ k = 4 ∨ k = 5 ∨ k = 6 ∨ k = 7 ∨ k = 8 ∨ k = 9 ∨ k = 10 ∨ k = 11 ∨ k = 12 ∨ k = 13 ∨ k = 14 ∨ k = 15) with rfl | rfl | rfl | rfl | rfl | rfl | rfl | rfl | rfl | rfl | rfl | rfl | rfl | rfl | rfl | rfl <;> kernel_rfl
theorem restV_at (b k : Nat) (hk : k < 6) : ∀ w, (Instr.index 121 (restV b) (.int .i64 (k : Int))).run Try.prog w = .ok (.agg #[.pointer (ptL (lgX k) ⟨b, 2 + k, none⟩), .pointer (ptL (!lgX k) ⟨b, 2 + k, none⟩)]) w := by
  intro w
  rcases (by omega : k = 0 ∨ k = 1 ∨ k = 2 ∨ k = 3 ∨ k = 4 ∨ k = 5) with rfl | rfl | rfl | rfl | rfl | rfl <;> kernel_rfl

set_option maxRecDepth 100000 in
set_option maxHeartbeats 8000000 in
theorem rest_any (b : Nat) (w : World) : Calls Try.prog 76 #[.pointer (some ⟨b, 0, none⟩)] w fun e w' => e = .returned (restV b) ∧ Below w.heap.size w w' := by
  go_enter Try.func76, Try.ntmps76
  go_wp2
  as_aux_lemma =>
  refine wp_region_held_drew (S := fun _ => True) (by kernel_rfl) trivial (fun hHeld => ?r)
  show wpAnyH Try.prog .any _ _ _ 31 #[false, false, false, false, false, false, false, false, false, false, false, false, false, false, false, false, false, false, false, false, false, false, false, false, false, false, false, false, false, false, false] _ _
  refine wpAnyH_take (i := 0) (oi := ?oi0) (v := (.pointer (some ⟨b, 0, none⟩))) ?hi0 (by as_aux_lemma => kernel_rfl) (by as_aux_lemma => kernel_rfl) (by as_aux_lemma => kernel_rfl) ?hQ0 (Or.inl ⟨?hw0, ?hy0⟩) trivial ?r0
  case hi0 => (simp only [List.getElem?_toArray, List.getElem?_cons_succ, List.getElem?_cons_zero]; rfl)
  case hQ0 => exact fun _ _ _ h => h
  case hw0 => rfl
  case hy0 => (intro w hSw; exact (by as_aux_lemma => kernel_rfl))
  (try simp only [Act.put, List.setIfInBounds_toArray, List.set_cons_zero, List.set_cons_succ])
  refine wpAnyH_take (i := 1) (oi := ?oi1) (v := (.pointer (some ⟨b, 0, none⟩))) ?hi1 (by as_aux_lemma => kernel_rfl) (by as_aux_lemma => kernel_rfl) (by as_aux_lemma => kernel_rfl) ?hQ1 (Or.inl ⟨?hw1, ?hy1⟩) trivial ?r1
  case hi1 => (simp only [List.getElem?_toArray, List.getElem?_cons_succ, List.getElem?_cons_zero]; rfl)
  case hQ1 => exact fun _ _ _ h => h
  case hw1 => rfl
  case hy1 => (intro w hSw; exact (by as_aux_lemma => kernel_rfl))
  (try simp only [Act.put, List.setIfInBounds_toArray, List.set_cons_zero, List.set_cons_succ])
  refine wpAnyH_take (i := 2) (oi := ?oi2) (v := (.pointer (some ⟨b, 2, none⟩))) ?hi2 (by as_aux_lemma => kernel_rfl) (by as_aux_lemma => kernel_rfl) (by as_aux_lemma => kernel_rfl) ?hQ2 (Or.inl ⟨?hw2, ?hy2⟩) trivial ?r2
  case hi2 => (simp only [List.getElem?_toArray, List.getElem?_cons_succ, List.getElem?_cons_zero]; rfl)
  case hQ2 => exact fun _ _ _ h => h
  case hw2 => rfl
  case hy2 => (intro w hSw; exact (by as_aux_lemma => kernel_rfl))
  (try simp only [Act.put, List.setIfInBounds_toArray, List.set_cons_zero, List.set_cons_succ])
  refine wpAnyH_take (i := 3) (oi := ?oi3) (v := (.agg #[.pointer (some ⟨b, 2, none⟩), .pointer none])) ?hi3 (by as_aux_lemma => kernel_rfl) (by as_aux_lemma => kernel_rfl) (by as_aux_lemma => kernel_rfl) ?hQ3 (Or.inl ⟨?hw3, ?hy3⟩) trivial ?r3
  case hi3 => (simp only [List.getElem?_toArray, List.getElem?_cons_succ, List.getElem?_cons_zero]; rfl)
  case hQ3 => exact fun _ _ _ h => h
  case hw3 => rfl
  case hy3 => (intro w hSw; exact (by as_aux_lemma => kernel_rfl))
  (try simp only [Act.put, List.setIfInBounds_toArray, List.set_cons_zero, List.set_cons_succ])
  refine wpAnyH_take (i := 4) (oi := ?oi4) (v := (.pointer (some ⟨b, 0, none⟩))) ?hi4 (by as_aux_lemma => kernel_rfl) (by as_aux_lemma => kernel_rfl) (by as_aux_lemma => kernel_rfl) ?hQ4 (Or.inl ⟨?hw4, ?hy4⟩) trivial ?r4
  case hi4 => (simp only [List.getElem?_toArray, List.getElem?_cons_succ, List.getElem?_cons_zero]; rfl)
  case hQ4 => exact fun _ _ _ h => h
  case hw4 => rfl
  case hy4 => (intro w hSw; exact (by as_aux_lemma => kernel_rfl))
  (try simp only [Act.put, List.setIfInBounds_toArray, List.set_cons_zero, List.set_cons_succ])
  refine wpAnyH_take (i := 5) (oi := ?oi5) (v := (.pointer (some ⟨b, 0, none⟩))) ?hi5 (by as_aux_lemma => kernel_rfl) (by as_aux_lemma => kernel_rfl) (by as_aux_lemma => kernel_rfl) ?hQ5 (Or.inl ⟨?hw5, ?hy5⟩) trivial ?r5
  case hi5 => (simp only [List.getElem?_toArray, List.getElem?_cons_succ, List.getElem?_cons_zero]; rfl)
  case hQ5 => exact fun _ _ _ h => h
  case hw5 => rfl
  case hy5 => (intro w hSw; exact (by as_aux_lemma => kernel_rfl))
  (try simp only [Act.put, List.setIfInBounds_toArray, List.set_cons_zero, List.set_cons_succ])
  refine wpAnyH_take (i := 6) (oi := ?oi6) (v := (.pointer (some ⟨b, 3, none⟩))) ?hi6 (by as_aux_lemma => kernel_rfl) (by as_aux_lemma => kernel_rfl) (by as_aux_lemma => kernel_rfl) ?hQ6 (Or.inl ⟨?hw6, ?hy6⟩) trivial ?r6
  case hi6 => (simp only [List.getElem?_toArray, List.getElem?_cons_succ, List.getElem?_cons_zero]; rfl)
  case hQ6 => exact fun _ _ _ h => h
  case hw6 => rfl
  case hy6 => (intro w hSw; exact (by as_aux_lemma => kernel_rfl))
  (try simp only [Act.put, List.setIfInBounds_toArray, List.set_cons_zero, List.set_cons_succ])
  refine wpAnyH_take (i := 7) (oi := ?oi7) (v := (.pointer (some ⟨b, 3, none⟩))) ?hi7 (by as_aux_lemma => kernel_rfl) (by as_aux_lemma => kernel_rfl) (by as_aux_lemma => kernel_rfl) ?hQ7 (Or.inl ⟨?hw7, ?hy7⟩) trivial ?r7
  case hi7 => (simp only [List.getElem?_toArray, List.getElem?_cons_succ, List.getElem?_cons_zero]; rfl)
  case hQ7 => exact fun _ _ _ h => h
  case hw7 => rfl
  case hy7 => (intro w hSw; exact (by as_aux_lemma => kernel_rfl))
  (try simp only [Act.put, List.setIfInBounds_toArray, List.set_cons_zero, List.set_cons_succ])
  refine wpAnyH_take (i := 8) (oi := ?oi8) (v := (.agg #[.pointer none, .pointer (some ⟨b, 3, none⟩)])) ?hi8 (by as_aux_lemma => kernel_rfl) (by as_aux_lemma => kernel_rfl) (by as_aux_lemma => kernel_rfl) ?hQ8 (Or.inl ⟨?hw8, ?hy8⟩) trivial ?r8
  case hi8 => (simp only [List.getElem?_toArray, List.getElem?_cons_succ, List.getElem?_cons_zero]; rfl)
  case hQ8 => exact fun _ _ _ h => h
  case hw8 => rfl
  case hy8 => (intro w hSw; exact (by as_aux_lemma => kernel_rfl))
  (try simp only [Act.put, List.setIfInBounds_toArray, List.set_cons_zero, List.set_cons_succ])
  refine wpAnyH_take (i := 9) (oi := ?oi9) (v := (.pointer (some ⟨b, 0, none⟩))) ?hi9 (by as_aux_lemma => kernel_rfl) (by as_aux_lemma => kernel_rfl) (by as_aux_lemma => kernel_rfl) ?hQ9 (Or.inl ⟨?hw9, ?hy9⟩) trivial ?r9
  case hi9 => (simp only [List.getElem?_toArray, List.getElem?_cons_succ, List.getElem?_cons_zero]; rfl)
  case hQ9 => exact fun _ _ _ h => h
  case hw9 => rfl
  case hy9 => (intro w hSw; exact (by as_aux_lemma => kernel_rfl))
  (try simp only [Act.put, List.setIfInBounds_toArray, List.set_cons_zero, List.set_cons_succ])
  refine wpAnyH_take (i := 10) (oi := ?oi10) (v := (.pointer (some ⟨b, 0, none⟩))) ?hi10 (by as_aux_lemma => kernel_rfl) (by as_aux_lemma => kernel_rfl) (by as_aux_lemma => kernel_rfl) ?hQ10 (Or.inl ⟨?hw10, ?hy10⟩) trivial ?r10
  case hi10 => (simp only [List.getElem?_toArray, List.getElem?_cons_succ, List.getElem?_cons_zero]; rfl)
  case hQ10 => exact fun _ _ _ h => h
  case hw10 => rfl
  case hy10 => (intro w hSw; exact (by as_aux_lemma => kernel_rfl))
  (try simp only [Act.put, List.setIfInBounds_toArray, List.set_cons_zero, List.set_cons_succ])
  refine wpAnyH_take (i := 11) (oi := ?oi11) (v := (.pointer (some ⟨b, 3, none⟩))) ?hi11 (by as_aux_lemma => kernel_rfl) (by as_aux_lemma => kernel_rfl) (by as_aux_lemma => kernel_rfl) ?hQ11 (Or.inl ⟨?hw11, ?hy11⟩) trivial ?r11
  case hi11 => (simp only [List.getElem?_toArray, List.getElem?_cons_succ, List.getElem?_cons_zero]; rfl)
  case hQ11 => exact fun _ _ _ h => h
  case hw11 => rfl
  case hy11 => (intro w hSw; exact (by as_aux_lemma => kernel_rfl))
  (try simp only [Act.put, List.setIfInBounds_toArray, List.set_cons_zero, List.set_cons_succ])
  refine wpAnyH_take (i := 12) (oi := ?oi12) (v := (.pointer (some ⟨b, 4, none⟩))) ?hi12 (by as_aux_lemma => kernel_rfl) (by as_aux_lemma => kernel_rfl) (by as_aux_lemma => kernel_rfl) ?hQ12 (Or.inl ⟨?hw12, ?hy12⟩) trivial ?r12
  case hi12 => (simp only [List.getElem?_toArray, List.getElem?_cons_succ, List.getElem?_cons_zero]; rfl)
  case hQ12 => exact fun _ _ _ h => h
  case hw12 => rfl
  case hy12 => (intro w hSw; exact (by as_aux_lemma => kernel_rfl))
  (try simp only [Act.put, List.setIfInBounds_toArray, List.set_cons_zero, List.set_cons_succ])
  refine wpAnyH_take (i := 13) (oi := ?oi13) (v := (.agg #[.pointer none, .pointer (some ⟨b, 4, none⟩)])) ?hi13 (by as_aux_lemma => kernel_rfl) (by as_aux_lemma => kernel_rfl) (by as_aux_lemma => kernel_rfl) ?hQ13 (Or.inl ⟨?hw13, ?hy13⟩) trivial ?r13
  case hi13 => (simp only [List.getElem?_toArray, List.getElem?_cons_succ, List.getElem?_cons_zero]; rfl)
  case hQ13 => exact fun _ _ _ h => h
  case hw13 => rfl
  case hy13 => (intro w hSw; exact (by as_aux_lemma => kernel_rfl))
  (try simp only [Act.put, List.setIfInBounds_toArray, List.set_cons_zero, List.set_cons_succ])
  refine wpAnyH_take (i := 14) (oi := ?oi14) (v := (.pointer (some ⟨b, 0, none⟩))) ?hi14 (by as_aux_lemma => kernel_rfl) (by as_aux_lemma => kernel_rfl) (by as_aux_lemma => kernel_rfl) ?hQ14 (Or.inl ⟨?hw14, ?hy14⟩) trivial ?r14
  case hi14 => (simp only [List.getElem?_toArray, List.getElem?_cons_succ, List.getElem?_cons_zero]; rfl)
  case hQ14 => exact fun _ _ _ h => h
  case hw14 => rfl
  case hy14 => (intro w hSw; exact (by as_aux_lemma => kernel_rfl))
  (try simp only [Act.put, List.setIfInBounds_toArray, List.set_cons_zero, List.set_cons_succ])
  refine wpAnyH_take (i := 15) (oi := ?oi15) (v := (.pointer (some ⟨b, 0, none⟩))) ?hi15 (by as_aux_lemma => kernel_rfl) (by as_aux_lemma => kernel_rfl) (by as_aux_lemma => kernel_rfl) ?hQ15 (Or.inl ⟨?hw15, ?hy15⟩) trivial ?r15
  case hi15 => (simp only [List.getElem?_toArray, List.getElem?_cons_succ, List.getElem?_cons_zero]; rfl)
  case hQ15 => exact fun _ _ _ h => h
  case hw15 => rfl
  case hy15 => (intro w hSw; exact (by as_aux_lemma => kernel_rfl))
  (try simp only [Act.put, List.setIfInBounds_toArray, List.set_cons_zero, List.set_cons_succ])
  refine wpAnyH_take (i := 16) (oi := ?oi16) (v := (.pointer (some ⟨b, 3, none⟩))) ?hi16 (by as_aux_lemma => kernel_rfl) (by as_aux_lemma => kernel_rfl) (by as_aux_lemma => kernel_rfl) ?hQ16 (Or.inl ⟨?hw16, ?hy16⟩) trivial ?r16
  case hi16 => (simp only [List.getElem?_toArray, List.getElem?_cons_succ, List.getElem?_cons_zero]; rfl)
  case hQ16 => exact fun _ _ _ h => h
  case hw16 => rfl
  case hy16 => (intro w hSw; exact (by as_aux_lemma => kernel_rfl))
  (try simp only [Act.put, List.setIfInBounds_toArray, List.set_cons_zero, List.set_cons_succ])
  refine wpAnyH_take (i := 17) (oi := ?oi17) (v := (.pointer (some ⟨b, 5, none⟩))) ?hi17 (by as_aux_lemma => kernel_rfl) (by as_aux_lemma => kernel_rfl) (by as_aux_lemma => kernel_rfl) ?hQ17 (Or.inl ⟨?hw17, ?hy17⟩) trivial ?r17
  case hi17 => (simp only [List.getElem?_toArray, List.getElem?_cons_succ, List.getElem?_cons_zero]; rfl)
  case hQ17 => exact fun _ _ _ h => h
  case hw17 => rfl
  case hy17 => (intro w hSw; exact (by as_aux_lemma => kernel_rfl))
  (try simp only [Act.put, List.setIfInBounds_toArray, List.set_cons_zero, List.set_cons_succ])
  refine wpAnyH_take (i := 18) (oi := ?oi18) (v := (.agg #[.pointer none, .pointer (some ⟨b, 5, none⟩)])) ?hi18 (by as_aux_lemma => kernel_rfl) (by as_aux_lemma => kernel_rfl) (by as_aux_lemma => kernel_rfl) ?hQ18 (Or.inl ⟨?hw18, ?hy18⟩) trivial ?r18
  case hi18 => (simp only [List.getElem?_toArray, List.getElem?_cons_succ, List.getElem?_cons_zero]; rfl)
  case hQ18 => exact fun _ _ _ h => h
  case hw18 => rfl
  case hy18 => (intro w hSw; exact (by as_aux_lemma => kernel_rfl))
  (try simp only [Act.put, List.setIfInBounds_toArray, List.set_cons_zero, List.set_cons_succ])
  refine wpAnyH_take (i := 19) (oi := ?oi19) (v := (.pointer (some ⟨b, 0, none⟩))) ?hi19 (by as_aux_lemma => kernel_rfl) (by as_aux_lemma => kernel_rfl) (by as_aux_lemma => kernel_rfl) ?hQ19 (Or.inl ⟨?hw19, ?hy19⟩) trivial ?r19
  case hi19 => (simp only [List.getElem?_toArray, List.getElem?_cons_succ, List.getElem?_cons_zero]; rfl)
  case hQ19 => exact fun _ _ _ h => h
  case hw19 => rfl
  case hy19 => (intro w hSw; exact (by as_aux_lemma => kernel_rfl))
  (try simp only [Act.put, List.setIfInBounds_toArray, List.set_cons_zero, List.set_cons_succ])
  refine wpAnyH_take (i := 20) (oi := ?oi20) (v := (.pointer (some ⟨b, 0, none⟩))) ?hi20 (by as_aux_lemma => kernel_rfl) (by as_aux_lemma => kernel_rfl) (by as_aux_lemma => kernel_rfl) ?hQ20 (Or.inl ⟨?hw20, ?hy20⟩) trivial ?r20
  case hi20 => (simp only [List.getElem?_toArray, List.getElem?_cons_succ, List.getElem?_cons_zero]; rfl)
  case hQ20 => exact fun _ _ _ h => h
  case hw20 => rfl
  case hy20 => (intro w hSw; exact (by as_aux_lemma => kernel_rfl))
  (try simp only [Act.put, List.setIfInBounds_toArray, List.set_cons_zero, List.set_cons_succ])
  refine wpAnyH_take (i := 21) (oi := ?oi21) (v := (.pointer (some ⟨b, 6, none⟩))) ?hi21 (by as_aux_lemma => kernel_rfl) (by as_aux_lemma => kernel_rfl) (by as_aux_lemma => kernel_rfl) ?hQ21 (Or.inl ⟨?hw21, ?hy21⟩) trivial ?r21
  case hi21 => (simp only [List.getElem?_toArray, List.getElem?_cons_succ, List.getElem?_cons_zero]; rfl)
  case hQ21 => exact fun _ _ _ h => h
  case hw21 => rfl
  case hy21 => (intro w hSw; exact (by as_aux_lemma => kernel_rfl))
  (try simp only [Act.put, List.setIfInBounds_toArray, List.set_cons_zero, List.set_cons_succ])
  refine wpAnyH_take (i := 22) (oi := ?oi22) (v := (.pointer (some ⟨b, 6, none⟩))) ?hi22 (by as_aux_lemma => kernel_rfl) (by as_aux_lemma => kernel_rfl) (by as_aux_lemma => kernel_rfl) ?hQ22 (Or.inl ⟨?hw22, ?hy22⟩) trivial ?r22
  case hi22 => (simp only [List.getElem?_toArray, List.getElem?_cons_succ, List.getElem?_cons_zero]; rfl)
  case hQ22 => exact fun _ _ _ h => h
  case hw22 => rfl
  case hy22 => (intro w hSw; exact (by as_aux_lemma => kernel_rfl))
  (try simp only [Act.put, List.setIfInBounds_toArray, List.set_cons_zero, List.set_cons_succ])
  refine wpAnyH_take (i := 23) (oi := ?oi23) (v := (.agg #[.pointer (some ⟨b, 6, none⟩), .pointer none])) ?hi23 (by as_aux_lemma => kernel_rfl) (by as_aux_lemma => kernel_rfl) (by as_aux_lemma => kernel_rfl) ?hQ23 (Or.inl ⟨?hw23, ?hy23⟩) trivial ?r23
  case hi23 => (simp only [List.getElem?_toArray, List.getElem?_cons_succ, List.getElem?_cons_zero]; rfl)
  case hQ23 => exact fun _ _ _ h => h
  case hw23 => rfl
  case hy23 => (intro w hSw; exact (by as_aux_lemma => kernel_rfl))
  (try simp only [Act.put, List.setIfInBounds_toArray, List.set_cons_zero, List.set_cons_succ])
  refine wpAnyH_take (i := 24) (oi := ?oi24) (v := (.pointer (some ⟨b, 0, none⟩))) ?hi24 (by as_aux_lemma => kernel_rfl) (by as_aux_lemma => kernel_rfl) (by as_aux_lemma => kernel_rfl) ?hQ24 (Or.inl ⟨?hw24, ?hy24⟩) trivial ?r24
  case hi24 => (simp only [List.getElem?_toArray, List.getElem?_cons_succ, List.getElem?_cons_zero]; rfl)
  case hQ24 => exact fun _ _ _ h => h
  case hw24 => rfl
  case hy24 => (intro w hSw; exact (by as_aux_lemma => kernel_rfl))
  (try simp only [Act.put, List.setIfInBounds_toArray, List.set_cons_zero, List.set_cons_succ])
  refine wpAnyH_take (i := 25) (oi := ?oi25) (v := (.pointer (some ⟨b, 0, none⟩))) ?hi25 (by as_aux_lemma => kernel_rfl) (by as_aux_lemma => kernel_rfl) (by as_aux_lemma => kernel_rfl) ?hQ25 (Or.inl ⟨?hw25, ?hy25⟩) trivial ?r25
  case hi25 => (simp only [List.getElem?_toArray, List.getElem?_cons_succ, List.getElem?_cons_zero]; rfl)
  case hQ25 => exact fun _ _ _ h => h
  case hw25 => rfl
  case hy25 => (intro w hSw; exact (by as_aux_lemma => kernel_rfl))
  (try simp only [Act.put, List.setIfInBounds_toArray, List.set_cons_zero, List.set_cons_succ])
  refine wpAnyH_take (i := 26) (oi := ?oi26) (v := (.pointer (some ⟨b, 6, none⟩))) ?hi26 (by as_aux_lemma => kernel_rfl) (by as_aux_lemma => kernel_rfl) (by as_aux_lemma => kernel_rfl) ?hQ26 (Or.inl ⟨?hw26, ?hy26⟩) trivial ?r26
  case hi26 => (simp only [List.getElem?_toArray, List.getElem?_cons_succ, List.getElem?_cons_zero]; rfl)
  case hQ26 => exact fun _ _ _ h => h
  case hw26 => rfl
  case hy26 => (intro w hSw; exact (by as_aux_lemma => kernel_rfl))
  (try simp only [Act.put, List.setIfInBounds_toArray, List.set_cons_zero, List.set_cons_succ])
  refine wpAnyH_take (i := 27) (oi := ?oi27) (v := (.pointer (some ⟨b, 7, none⟩))) ?hi27 (by as_aux_lemma => kernel_rfl) (by as_aux_lemma => kernel_rfl) (by as_aux_lemma => kernel_rfl) ?hQ27 (Or.inl ⟨?hw27, ?hy27⟩) trivial ?r27
  case hi27 => (simp only [List.getElem?_toArray, List.getElem?_cons_succ, List.getElem?_cons_zero]; rfl)
  case hQ27 => exact fun _ _ _ h => h
  case hw27 => rfl
  case hy27 => (intro w hSw; exact (by as_aux_lemma => kernel_rfl))
  (try simp only [Act.put, List.setIfInBounds_toArray, List.set_cons_zero, List.set_cons_succ])
  refine wpAnyH_take (i := 28) (oi := ?oi28) (v := (.agg #[.pointer (some ⟨b, 7, none⟩), .pointer none])) ?hi28 (by as_aux_lemma => kernel_rfl) (by as_aux_lemma => kernel_rfl) (by as_aux_lemma => kernel_rfl) ?hQ28 (Or.inl ⟨?hw28, ?hy28⟩) trivial ?r28
  case hi28 => (simp only [List.getElem?_toArray, List.getElem?_cons_succ, List.getElem?_cons_zero]; rfl)
  case hQ28 => exact fun _ _ _ h => h
  case hw28 => rfl
  case hy28 => (intro w hSw; exact (by as_aux_lemma => kernel_rfl))
  (try simp only [Act.put, List.setIfInBounds_toArray, List.set_cons_zero, List.set_cons_succ])
  refine wpAnyH_take (i := 29) (oi := ?oi29) (v := (.agg #[.pointer (some ⟨b, 2, none⟩), .pointer none, .pointer none, .pointer (some ⟨b, 3, none⟩), .pointer none, .pointer (some ⟨b, 4, none⟩), .pointer none, .pointer (some ⟨b, 5, none⟩), .pointer (some ⟨b, 6, none⟩), .pointer none, .pointer (some ⟨b, 7, none⟩), .pointer none])) ?hi29 (by as_aux_lemma => kernel_rfl) (by as_aux_lemma => kernel_rfl) (by as_aux_lemma => kernel_rfl) ?hQ29 (Or.inl ⟨?hw29, ?hy29⟩) trivial ?r29
  case hi29 => (simp only [List.getElem?_toArray, List.getElem?_cons_succ, List.getElem?_cons_zero]; rfl)
  case hQ29 => exact fun _ _ _ h => h
  case hw29 => rfl
  case hy29 => (intro w hSw; exact (by as_aux_lemma => kernel_rfl))
  (try simp only [Act.put, List.setIfInBounds_toArray, List.set_cons_zero, List.set_cons_succ])
  refine wpAnyH_ready (rs := [30]) (by as_aux_lemma => kernel_rfl) (by simp) ?_
  refine AllReadyH.cons (o := ?oi30) ?hi30 ?hc30 AllReadyH.nil
  case hi30 => (simp only [List.getElem?_toArray, List.getElem?_cons_succ, List.getElem?_cons_zero]; rfl)
  intro K hK
  go_simp
  refine hK.out _ _ trivial (fun hHeld => ?rz)
  clear hK K
  (try simp only [Act.put, List.setIfInBounds_toArray, List.set_cons_zero, List.set_cons_succ])
  refine wpAnyH_done (by as_aux_lemma => kernel_rfl) ?_ _
  go_wp2_with fail
  refine bodyPost_ret (v := restV b) ?rs rfl ⟨rfl, drew_belowE ((Below.refl w.heap.size w).alloc (Nat.le_refl _) _)⟩
  case rs => simp [results, Try.f76, go_sem, restV]

set_option maxRecDepth 100000 in
set_option maxHeartbeats 8000000 in
theorem cells_any (b : Nat) (w : World) : Calls Try.prog 74 #[.pointer (some ⟨b, 0, none⟩)] w fun e w' => e = .returned (cellsV b) ∧ Below w.heap.size w w' := by
  go_enter Try.func74, Try.ntmps74
  go_wp2
  as_aux_lemma =>
  refine wp_region_held_drew (S := fun _ => True) (by kernel_rfl) trivial (fun hHeld => ?r)
  show wpAnyH Try.prog .any _ _ _ 66 #[false, false, false, false, false, false, false, false, false, false, false, false, false, false, false, false, false, false, false, false, false, false, false, false, false, false, false, false, false, false, false, false, false, false, false, false, false, false, false, false, false, false, false, false, false, false, false, false, false, false, false, false, false, false, false, false, false, false, false, false, false, false, false, false, false, false] _ _
  refine wpAnyH_take (i := 0) (oi := ?oi0) (v := (.pointer (some ⟨b, 0, none⟩))) ?hi0 (by as_aux_lemma => kernel_rfl) (by as_aux_lemma => kernel_rfl) (by as_aux_lemma => kernel_rfl) ?hQ0 (Or.inl ⟨?hw0, ?hy0⟩) trivial ?r0
  case hi0 => (simp only [List.getElem?_toArray, List.getElem?_cons_succ, List.getElem?_cons_zero]; rfl)
  case hQ0 => exact fun _ _ _ h => h
  case hw0 => rfl
  case hy0 => (intro w hSw; exact (by as_aux_lemma => kernel_rfl))
  (try simp only [Act.put, List.setIfInBounds_toArray, List.set_cons_zero, List.set_cons_succ])
  refine wpAnyH_take (i := 1) (oi := ?oi1) (v := (.pointer (some ⟨b, 0, none⟩))) ?hi1 (by as_aux_lemma => kernel_rfl) (by as_aux_lemma => kernel_rfl) (by as_aux_lemma => kernel_rfl) ?hQ1 (Or.inl ⟨?hw1, ?hy1⟩) trivial ?r1
  case hi1 => (simp only [List.getElem?_toArray, List.getElem?_cons_succ, List.getElem?_cons_zero]; rfl)
  case hQ1 => exact fun _ _ _ h => h
  case hw1 => rfl
  case hy1 => (intro w hSw; exact (by as_aux_lemma => kernel_rfl))
  (try simp only [Act.put, List.setIfInBounds_toArray, List.set_cons_zero, List.set_cons_succ])
  refine wpAnyH_take (i := 2) (oi := ?oi2) (v := (.pointer (some ⟨b, 0, none⟩))) ?hi2 (by as_aux_lemma => kernel_rfl) (by as_aux_lemma => kernel_rfl) (by as_aux_lemma => kernel_rfl) ?hQ2 (Or.inl ⟨?hw2, ?hy2⟩) trivial ?r2
  case hi2 => (simp only [List.getElem?_toArray, List.getElem?_cons_succ, List.getElem?_cons_zero]; rfl)
  case hQ2 => exact fun _ _ _ h => h
  case hw2 => rfl
  case hy2 => (intro w hSw; exact (by as_aux_lemma => kernel_rfl))
  (try simp only [Act.put, List.setIfInBounds_toArray, List.set_cons_zero, List.set_cons_succ])
  refine wpAnyH_take (i := 3) (oi := ?oi3) (v := (.agg #[.pointer (some ⟨b, 0, none⟩), .pointer none])) ?hi3 (by as_aux_lemma => kernel_rfl) (by as_aux_lemma => kernel_rfl) (by as_aux_lemma => kernel_rfl) ?hQ3 (Or.inl ⟨?hw3, ?hy3⟩) trivial ?r3
  case hi3 => (simp only [List.getElem?_toArray, List.getElem?_cons_succ, List.getElem?_cons_zero]; rfl)
  case hQ3 => exact fun _ _ _ h => h
  case hw3 => rfl
  case hy3 => (intro w hSw; exact (by as_aux_lemma => kernel_rfl))
  (try simp only [Act.put, List.setIfInBounds_toArray, List.set_cons_zero, List.set_cons_succ])
  refine wpAnyH_take (i := 4) (oi := ?oi4) (v := (.pointer (some ⟨b, 0, none⟩))) ?hi4 (by as_aux_lemma => kernel_rfl) (by as_aux_lemma => kernel_rfl) (by as_aux_lemma => kernel_rfl) ?hQ4 (Or.inl ⟨?hw4, ?hy4⟩) trivial ?r4
  case hi4 => (simp only [List.getElem?_toArray, List.getElem?_cons_succ, List.getElem?_cons_zero]; rfl)
  case hQ4 => exact fun _ _ _ h => h
  case hw4 => rfl
  case hy4 => (intro w hSw; exact (by as_aux_lemma => kernel_rfl))
  (try simp only [Act.put, List.setIfInBounds_toArray, List.set_cons_zero, List.set_cons_succ])
  refine wpAnyH_take (i := 5) (oi := ?oi5) (v := (.pointer (some ⟨b, 0, none⟩))) ?hi5 (by as_aux_lemma => kernel_rfl) (by as_aux_lemma => kernel_rfl) (by as_aux_lemma => kernel_rfl) ?hQ5 (Or.inl ⟨?hw5, ?hy5⟩) trivial ?r5
  case hi5 => (simp only [List.getElem?_toArray, List.getElem?_cons_succ, List.getElem?_cons_zero]; rfl)
  case hQ5 => exact fun _ _ _ h => h
  case hw5 => rfl
  case hy5 => (intro w hSw; exact (by as_aux_lemma => kernel_rfl))
  (try simp only [Act.put, List.setIfInBounds_toArray, List.set_cons_zero, List.set_cons_succ])
  refine wpAnyH_take (i := 6) (oi := ?oi6) (v := (.pointer (some ⟨b, 1, none⟩))) ?hi6 (by as_aux_lemma => kernel_rfl) (by as_aux_lemma => kernel_rfl) (by as_aux_lemma => kernel_rfl) ?hQ6 (Or.inl ⟨?hw6, ?hy6⟩) trivial ?r6
  case hi6 => (simp only [List.getElem?_toArray, List.getElem?_cons_succ, List.getElem?_cons_zero]; rfl)
  case hQ6 => exact fun _ _ _ h => h
  case hw6 => rfl
  case hy6 => (intro w hSw; exact (by as_aux_lemma => kernel_rfl))
  (try simp only [Act.put, List.setIfInBounds_toArray, List.set_cons_zero, List.set_cons_succ])
  refine wpAnyH_take (i := 7) (oi := ?oi7) (v := (.agg #[.pointer (some ⟨b, 1, none⟩), .pointer none])) ?hi7 (by as_aux_lemma => kernel_rfl) (by as_aux_lemma => kernel_rfl) (by as_aux_lemma => kernel_rfl) ?hQ7 (Or.inl ⟨?hw7, ?hy7⟩) trivial ?r7
  case hi7 => (simp only [List.getElem?_toArray, List.getElem?_cons_succ, List.getElem?_cons_zero]; rfl)
  case hQ7 => exact fun _ _ _ h => h
  case hw7 => rfl
  case hy7 => (intro w hSw; exact (by as_aux_lemma => kernel_rfl))
  (try simp only [Act.put, List.setIfInBounds_toArray, List.set_cons_zero, List.set_cons_succ])
  refine wpAnyH_take (i := 8) (oi := ?oi8) (v := (.pointer (some ⟨b, 0, none⟩))) ?hi8 (by as_aux_lemma => kernel_rfl) (by as_aux_lemma => kernel_rfl) (by as_aux_lemma => kernel_rfl) ?hQ8 (Or.inl ⟨?hw8, ?hy8⟩) trivial ?r8
  case hi8 => (simp only [List.getElem?_toArray, List.getElem?_cons_succ, List.getElem?_cons_zero]; rfl)
  case hQ8 => exact fun _ _ _ h => h
  case hw8 => rfl
  case hy8 => (intro w hSw; exact (by as_aux_lemma => kernel_rfl))
  (try simp only [Act.put, List.setIfInBounds_toArray, List.set_cons_zero, List.set_cons_succ])
  refine wpAnyH_take (i := 9) (oi := ?oi9) (v := (.pointer (some ⟨b, 0, none⟩))) ?hi9 (by as_aux_lemma => kernel_rfl) (by as_aux_lemma => kernel_rfl) (by as_aux_lemma => kernel_rfl) ?hQ9 (Or.inl ⟨?hw9, ?hy9⟩) trivial ?r9
  case hi9 => (simp only [List.getElem?_toArray, List.getElem?_cons_succ, List.getElem?_cons_zero]; rfl)
  case hQ9 => exact fun _ _ _ h => h
  case hw9 => rfl
  case hy9 => (intro w hSw; exact (by as_aux_lemma => kernel_rfl))
  (try simp only [Act.put, List.setIfInBounds_toArray, List.set_cons_zero, List.set_cons_succ])
  refine wpAnyH_take (i := 10) (oi := ?oi10) (v := (.pointer (some ⟨b, 2, none⟩))) ?hi10 (by as_aux_lemma => kernel_rfl) (by as_aux_lemma => kernel_rfl) (by as_aux_lemma => kernel_rfl) ?hQ10 (Or.inl ⟨?hw10, ?hy10⟩) trivial ?r10
  case hi10 => (simp only [List.getElem?_toArray, List.getElem?_cons_succ, List.getElem?_cons_zero]; rfl)
  case hQ10 => exact fun _ _ _ h => h
  case hw10 => rfl
  case hy10 => (intro w hSw; exact (by as_aux_lemma => kernel_rfl))
  (try simp only [Act.put, List.setIfInBounds_toArray, List.set_cons_zero, List.set_cons_succ])
  refine wpAnyH_take (i := 11) (oi := ?oi11) (v := (.agg #[.pointer none, .pointer (some ⟨b, 2, none⟩)])) ?hi11 (by as_aux_lemma => kernel_rfl) (by as_aux_lemma => kernel_rfl) (by as_aux_lemma => kernel_rfl) ?hQ11 (Or.inl ⟨?hw11, ?hy11⟩) trivial ?r11
  case hi11 => (simp only [List.getElem?_toArray, List.getElem?_cons_succ, List.getElem?_cons_zero]; rfl)
  case hQ11 => exact fun _ _ _ h => h
  case hw11 => rfl
  case hy11 => (intro w hSw; exact (by as_aux_lemma => kernel_rfl))
  (try simp only [Act.put, List.setIfInBounds_toArray, List.set_cons_zero, List.set_cons_succ])
  refine wpAnyH_take (i := 12) (oi := ?oi12) (v := (.pointer (some ⟨b, 0, none⟩))) ?hi12 (by as_aux_lemma => kernel_rfl) (by as_aux_lemma => kernel_rfl) (by as_aux_lemma => kernel_rfl) ?hQ12 (Or.inl ⟨?hw12, ?hy12⟩) trivial ?r12
  case hi12 => (simp only [List.getElem?_toArray, List.getElem?_cons_succ, List.getElem?_cons_zero]; rfl)
  case hQ12 => exact fun _ _ _ h => h
  case hw12 => rfl
  case hy12 => (intro w hSw; exact (by as_aux_lemma => kernel_rfl))
  (try simp only [Act.put, List.setIfInBounds_toArray, List.set_cons_zero, List.set_cons_succ])
  refine wpAnyH_take (i := 13) (oi := ?oi13) (v := (.pointer (some ⟨b, 0, none⟩))) ?hi13 (by as_aux_lemma => kernel_rfl) (by as_aux_lemma => kernel_rfl) (by as_aux_lemma => kernel_rfl) ?hQ13 (Or.inl ⟨?hw13, ?hy13⟩) trivial ?r13
  case hi13 => (simp only [List.getElem?_toArray, List.getElem?_cons_succ, List.getElem?_cons_zero]; rfl)
  case hQ13 => exact fun _ _ _ h => h
  case hw13 => rfl
  case hy13 => (intro w hSw; exact (by as_aux_lemma => kernel_rfl))
  (try simp only [Act.put, List.setIfInBounds_toArray, List.set_cons_zero, List.set_cons_succ])
  refine wpAnyH_take (i := 14) (oi := ?oi14) (v := (.pointer (some ⟨b, 3, none⟩))) ?hi14 (by as_aux_lemma => kernel_rfl) (by as_aux_lemma => kernel_rfl) (by as_aux_lemma => kernel_rfl) ?hQ14 (Or.inl ⟨?hw14, ?hy14⟩) trivial ?r14
  case hi14 => (simp only [List.getElem?_toArray, List.getElem?_cons_succ, List.getElem?_cons_zero]; rfl)
  case hQ14 => exact fun _ _ _ h => h
  case hw14 => rfl
  case hy14 => (intro w hSw; exact (by as_aux_lemma => kernel_rfl))
  (try simp only [Act.put, List.setIfInBounds_toArray, List.set_cons_zero, List.set_cons_succ])
  refine wpAnyH_take (i := 15) (oi := ?oi15) (v := (.agg #[.pointer none, .pointer (some ⟨b, 3, none⟩)])) ?hi15 (by as_aux_lemma => kernel_rfl) (by as_aux_lemma => kernel_rfl) (by as_aux_lemma => kernel_rfl) ?hQ15 (Or.inl ⟨?hw15, ?hy15⟩) trivial ?r15
  case hi15 => (simp only [List.getElem?_toArray, List.getElem?_cons_succ, List.getElem?_cons_zero]; rfl)
  case hQ15 => exact fun _ _ _ h => h
  case hw15 => rfl
  case hy15 => (intro w hSw; exact (by as_aux_lemma => kernel_rfl))
  (try simp only [Act.put, List.setIfInBounds_toArray, List.set_cons_zero, List.set_cons_succ])
  as_aux_lemma =>
  refine wpAnyH_take (i := 16) (oi := ?oi16) (v := (.pointer (some ⟨b, 0, none⟩))) ?hi16 (by as_aux_lemma => kernel_rfl) (by as_aux_lemma => kernel_rfl) (by as_aux_lemma => kernel_rfl) ?hQ16 (Or.inl ⟨?hw16, ?hy16⟩) trivial ?r16
  case hi16 => (simp only [List.getElem?_toArray, List.getElem?_cons_succ, List.getElem?_cons_zero]; rfl)
  case hQ16 => exact fun _ _ _ h => h
  case hw16 => rfl
  case hy16 => (intro w hSw; exact (by as_aux_lemma => kernel_rfl))
  (try simp only [Act.put, List.setIfInBounds_toArray, List.set_cons_zero, List.set_cons_succ])
  refine wpAnyH_take (i := 17) (oi := ?oi17) (v := (.pointer (some ⟨b, 0, none⟩))) ?hi17 (by as_aux_lemma => kernel_rfl) (by as_aux_lemma => kernel_rfl) (by as_aux_lemma => kernel_rfl) ?hQ17 (Or.inl ⟨?hw17, ?hy17⟩) trivial ?r17
  case hi17 => (simp only [List.getElem?_toArray, List.getElem?_cons_succ, List.getElem?_cons_zero]; rfl)
  case hQ17 => exact fun _ _ _ h => h
  case hw17 => rfl
  case hy17 => (intro w hSw; exact (by as_aux_lemma => kernel_rfl))
  (try simp only [Act.put, List.setIfInBounds_toArray, List.set_cons_zero, List.set_cons_succ])
  refine wpAnyH_take (i := 18) (oi := ?oi18) (v := (.pointer (some ⟨b, 4, none⟩))) ?hi18 (by as_aux_lemma => kernel_rfl) (by as_aux_lemma => kernel_rfl) (by as_aux_lemma => kernel_rfl) ?hQ18 (Or.inl ⟨?hw18, ?hy18⟩) trivial ?r18
  case hi18 => (simp only [List.getElem?_toArray, List.getElem?_cons_succ, List.getElem?_cons_zero]; rfl)
  case hQ18 => exact fun _ _ _ h => h
  case hw18 => rfl
  case hy18 => (intro w hSw; exact (by as_aux_lemma => kernel_rfl))
  (try simp only [Act.put, List.setIfInBounds_toArray, List.set_cons_zero, List.set_cons_succ])
  refine wpAnyH_take (i := 19) (oi := ?oi19) (v := (.agg #[.pointer (some ⟨b, 4, none⟩), .pointer none])) ?hi19 (by as_aux_lemma => kernel_rfl) (by as_aux_lemma => kernel_rfl) (by as_aux_lemma => kernel_rfl) ?hQ19 (Or.inl ⟨?hw19, ?hy19⟩) trivial ?r19
  case hi19 => (simp only [List.getElem?_toArray, List.getElem?_cons_succ, List.getElem?_cons_zero]; rfl)
  case hQ19 => exact fun _ _ _ h => h
  case hw19 => rfl
  case hy19 => (intro w hSw; exact (by as_aux_lemma => kernel_rfl))
  (try simp only [Act.put, List.setIfInBounds_toArray, List.set_cons_zero, List.set_cons_succ])
  refine wpAnyH_take (i := 20) (oi := ?oi20) (v := (.pointer (some ⟨b, 0, none⟩))) ?hi20 (by as_aux_lemma => kernel_rfl) (by as_aux_lemma => kernel_rfl) (by as_aux_lemma => kernel_rfl) ?hQ20 (Or.inl ⟨?hw20, ?hy20⟩) trivial ?r20
  case hi20 => (simp only [List.getElem?_toArray, List.getElem?_cons_succ, List.getElem?_cons_zero]; rfl)
  case hQ20 => exact fun _ _ _ h => h
  case hw20 => rfl
  case hy20 => (intro w hSw; exact (by as_aux_lemma => kernel_rfl))
  (try simp only [Act.put, List.setIfInBounds_toArray, List.set_cons_zero, List.set_cons_succ])
  refine wpAnyH_take (i := 21) (oi := ?oi21) (v := (.pointer (some ⟨b, 0, none⟩))) ?hi21 (by as_aux_lemma => kernel_rfl) (by as_aux_lemma => kernel_rfl) (by as_aux_lemma => kernel_rfl) ?hQ21 (Or.inl ⟨?hw21, ?hy21⟩) trivial ?r21
  case hi21 => (simp only [List.getElem?_toArray, List.getElem?_cons_succ, List.getElem?_cons_zero]; rfl)
  case hQ21 => exact fun _ _ _ h => h
  case hw21 => rfl
  case hy21 => (intro w hSw; exact (by as_aux_lemma => kernel_rfl))
  (try simp only [Act.put, List.setIfInBounds_toArray, List.set_cons_zero, List.set_cons_succ])
  refine wpAnyH_take (i := 22) (oi := ?oi22) (v := (.pointer (some ⟨b, 5, none⟩))) ?hi22 (by as_aux_lemma => kernel_rfl) (by as_aux_lemma => kernel_rfl) (by as_aux_lemma => kernel_rfl) ?hQ22 (Or.inl ⟨?hw22, ?hy22⟩) trivial ?r22
  case hi22 => (simp only [List.getElem?_toArray, List.getElem?_cons_succ, List.getElem?_cons_zero]; rfl)
  case hQ22 => exact fun _ _ _ h => h
  case hw22 => rfl
  case hy22 => (intro w hSw; exact (by as_aux_lemma => kernel_rfl))
  (try simp only [Act.put, List.setIfInBounds_toArray, List.set_cons_zero, List.set_cons_succ])
  refine wpAnyH_take (i := 23) (oi := ?oi23) (v := (.agg #[.pointer none, .pointer (some ⟨b, 5, none⟩)])) ?hi23 (by as_aux_lemma => kernel_rfl) (by as_aux_lemma => kernel_rfl) (by as_aux_lemma => kernel_rfl) ?hQ23 (Or.inl ⟨?hw23, ?hy23⟩) trivial ?r23
  case hi23 => (simp only [List.getElem?_toArray, List.getElem?_cons_succ, List.getElem?_cons_zero]; rfl)
  case hQ23 => exact fun _ _ _ h => h
  case hw23 => rfl
  case hy23 => (intro w hSw; exact (by as_aux_lemma => kernel_rfl))
  (try simp only [Act.put, List.setIfInBounds_toArray, List.set_cons_zero, List.set_cons_succ])
  refine wpAnyH_take (i := 24) (oi := ?oi24) (v := (.pointer (some ⟨b, 0, none⟩))) ?hi24 (by as_aux_lemma => kernel_rfl) (by as_aux_lemma => kernel_rfl) (by as_aux_lemma => kernel_rfl) ?hQ24 (Or.inl ⟨?hw24, ?hy24⟩) trivial ?r24
  case hi24 => (simp only [List.getElem?_toArray, List.getElem?_cons_succ, List.getElem?_cons_zero]; rfl)
  case hQ24 => exact fun _ _ _ h => h
  case hw24 => rfl
  case hy24 => (intro w hSw; exact (by as_aux_lemma => kernel_rfl))
  (try simp only [Act.put, List.setIfInBounds_toArray, List.set_cons_zero, List.set_cons_succ])
  refine wpAnyH_take (i := 25) (oi := ?oi25) (v := (.pointer (some ⟨b, 0, none⟩))) ?hi25 (by as_aux_lemma => kernel_rfl) (by as_aux_lemma => kernel_rfl) (by as_aux_lemma => kernel_rfl) ?hQ25 (Or.inl ⟨?hw25, ?hy25⟩) trivial ?r25
  case hi25 => (simp only [List.getElem?_toArray, List.getElem?_cons_succ, List.getElem?_cons_zero]; rfl)
  case hQ25 => exact fun _ _ _ h => h
  case hw25 => rfl
  case hy25 => (intro w hSw; exact (by as_aux_lemma => kernel_rfl))
  (try simp only [Act.put, List.setIfInBounds_toArray, List.set_cons_zero, List.set_cons_succ])
  refine wpAnyH_take (i := 26) (oi := ?oi26) (v := (.pointer (some ⟨b, 6, none⟩))) ?hi26 (by as_aux_lemma => kernel_rfl) (by as_aux_lemma => kernel_rfl) (by as_aux_lemma => kernel_rfl) ?hQ26 (Or.inl ⟨?hw26, ?hy26⟩) trivial ?r26
  case hi26 => (simp only [List.getElem?_toArray, List.getElem?_cons_succ, List.getElem?_cons_zero]; rfl)
  case hQ26 => exact fun _ _ _ h => h
  case hw26 => rfl
  case hy26 => (intro w hSw; exact (by as_aux_lemma => kernel_rfl))
  (try simp only [Act.put, List.setIfInBounds_toArray, List.set_cons_zero, List.set_cons_succ])
  refine wpAnyH_take (i := 27) (oi := ?oi27) (v := (.agg #[.pointer (some ⟨b, 6, none⟩), .pointer none])) ?hi27 (by as_aux_lemma => kernel_rfl) (by as_aux_lemma => kernel_rfl) (by as_aux_lemma => kernel_rfl) ?hQ27 (Or.inl ⟨?hw27, ?hy27⟩) trivial ?r27
  case hi27 => (simp only [List.getElem?_toArray, List.getElem?_cons_succ, List.getElem?_cons_zero]; rfl)
  case hQ27 => exact fun _ _ _ h => h
  case hw27 => rfl
  case hy27 => (intro w hSw; exact (by as_aux_lemma => kernel_rfl))
  (try simp only [Act.put, List.setIfInBounds_toArray, List.set_cons_zero, List.set_cons_succ])
  refine wpAnyH_take (i := 28) (oi := ?oi28) (v := (.pointer (some ⟨b, 0, none⟩))) ?hi28 (by as_aux_lemma => kernel_rfl) (by as_aux_lemma => kernel_rfl) (by as_aux_lemma => kernel_rfl) ?hQ28 (Or.inl ⟨?hw28, ?hy28⟩) trivial ?r28
  case hi28 => (simp only [List.getElem?_toArray, List.getElem?_cons_succ, List.getElem?_cons_zero]; rfl)
  case hQ28 => exact fun _ _ _ h => h
  case hw28 => rfl
  case hy28 => (intro w hSw; exact (by as_aux_lemma => kernel_rfl))
  (try simp only [Act.put, List.setIfInBounds_toArray, List.set_cons_zero, List.set_cons_succ])
  refine wpAnyH_take (i := 29) (oi := ?oi29) (v := (.pointer (some ⟨b, 0, none⟩))) ?hi29 (by as_aux_lemma => kernel_rfl) (by as_aux_lemma => kernel_rfl) (by as_aux_lemma => kernel_rfl) ?hQ29 (Or.inl ⟨?hw29, ?hy29⟩) trivial ?r29
  case hi29 => (simp only [List.getElem?_toArray, List.getElem?_cons_succ, List.getElem?_cons_zero]; rfl)
  case hQ29 => exact fun _ _ _ h => h
  case hw29 => rfl
  case hy29 => (intro w hSw; exact (by as_aux_lemma => kernel_rfl))
  (try simp only [Act.put, List.setIfInBounds_toArray, List.set_cons_zero, List.set_cons_succ])
  refine wpAnyH_take (i := 30) (oi := ?oi30) (v := (.pointer (some ⟨b, 7, none⟩))) ?hi30 (by as_aux_lemma => kernel_rfl) (by as_aux_lemma => kernel_rfl) (by as_aux_lemma => kernel_rfl) ?hQ30 (Or.inl ⟨?hw30, ?hy30⟩) trivial ?r30
  case hi30 => (simp only [List.getElem?_toArray, List.getElem?_cons_succ, List.getElem?_cons_zero]; rfl)
  case hQ30 => exact fun _ _ _ h => h
  case hw30 => rfl
  case hy30 => (intro w hSw; exact (by as_aux_lemma => kernel_rfl))
  (try simp only [Act.put, List.setIfInBounds_toArray, List.set_cons_zero, List.set_cons_succ])
  refine wpAnyH_take (i := 31) (oi := ?oi31) (v := (.agg #[.pointer (some ⟨b, 7, none⟩), .pointer none])) ?hi31 (by as_aux_lemma => kernel_rfl) (by as_aux_lemma => kernel_rfl) (by as_aux_lemma => kernel_rfl) ?hQ31 (Or.inl ⟨?hw31, ?hy31⟩) trivial ?r31
  case hi31 => (simp only [List.getElem?_toArray, List.getElem?_cons_succ, List.getElem?_cons_zero]; rfl)
  case hQ31 => exact fun _ _ _ h => h
  case hw31 => rfl
  case hy31 => (intro w hSw; exact (by as_aux_lemma => kernel_rfl))
  (try simp only [Act.put, List.setIfInBounds_toArray, List.set_cons_zero, List.set_cons_succ])
  as_aux_lemma =>
  refine wpAnyH_take (i := 32) (oi := ?oi32) (v := (.pointer (some ⟨b, 0, none⟩))) ?hi32 (by as_aux_lemma => kernel_rfl) (by as_aux_lemma => kernel_rfl) (by as_aux_lemma => kernel_rfl) ?hQ32 (Or.inl ⟨?hw32, ?hy32⟩) trivial ?r32
  case hi32 => (simp only [List.getElem?_toArray, List.getElem?_cons_succ, List.getElem?_cons_zero]; rfl)
  case hQ32 => exact fun _ _ _ h => h
  case hw32 => rfl
  case hy32 => (intro w hSw; exact (by as_aux_lemma => kernel_rfl))
  (try simp only [Act.put, List.setIfInBounds_toArray, List.set_cons_zero, List.set_cons_succ])
  refine wpAnyH_take (i := 33) (oi := ?oi33) (v := (.pointer (some ⟨b, 0, none⟩))) ?hi33 (by as_aux_lemma => kernel_rfl) (by as_aux_lemma => kernel_rfl) (by as_aux_lemma => kernel_rfl) ?hQ33 (Or.inl ⟨?hw33, ?hy33⟩) trivial ?r33
  case hi33 => (simp only [List.getElem?_toArray, List.getElem?_cons_succ, List.getElem?_cons_zero]; rfl)
  case hQ33 => exact fun _ _ _ h => h
  case hw33 => rfl
  case hy33 => (intro w hSw; exact (by as_aux_lemma => kernel_rfl))
  (try simp only [Act.put, List.setIfInBounds_toArray, List.set_cons_zero, List.set_cons_succ])
  refine wpAnyH_take (i := 34) (oi := ?oi34) (v := (.pointer (some ⟨b, 8, none⟩))) ?hi34 (by as_aux_lemma => kernel_rfl) (by as_aux_lemma => kernel_rfl) (by as_aux_lemma => kernel_rfl) ?hQ34 (Or.inl ⟨?hw34, ?hy34⟩) trivial ?r34
  case hi34 => (simp only [List.getElem?_toArray, List.getElem?_cons_succ, List.getElem?_cons_zero]; rfl)
  case hQ34 => exact fun _ _ _ h => h
  case hw34 => rfl
  case hy34 => (intro w hSw; exact (by as_aux_lemma => kernel_rfl))
  (try simp only [Act.put, List.setIfInBounds_toArray, List.set_cons_zero, List.set_cons_succ])
  refine wpAnyH_take (i := 35) (oi := ?oi35) (v := (.agg #[.pointer (some ⟨b, 8, none⟩), .pointer none])) ?hi35 (by as_aux_lemma => kernel_rfl) (by as_aux_lemma => kernel_rfl) (by as_aux_lemma => kernel_rfl) ?hQ35 (Or.inl ⟨?hw35, ?hy35⟩) trivial ?r35
  case hi35 => (simp only [List.getElem?_toArray, List.getElem?_cons_succ, List.getElem?_cons_zero]; rfl)
  case hQ35 => exact fun _ _ _ h => h
  case hw35 => rfl
  case hy35 => (intro w hSw; exact (by as_aux_lemma => kernel_rfl))
  (try simp only [Act.put, List.setIfInBounds_toArray, List.set_cons_zero, List.set_cons_succ])
  refine wpAnyH_take (i := 36) (oi := ?oi36) (v := (.pointer (some ⟨b, 0, none⟩))) ?hi36 (by as_aux_lemma => kernel_rfl) (by as_aux_lemma => kernel_rfl) (by as_aux_lemma => kernel_rfl) ?hQ36 (Or.inl ⟨?hw36, ?hy36⟩) trivial ?r36
  case hi36 => (simp only [List.getElem?_toArray, List.getElem?_cons_succ, List.getElem?_cons_zero]; rfl)
  case hQ36 => exact fun _ _ _ h => h
  case hw36 => rfl
  case hy36 => (intro w hSw; exact (by as_aux_lemma => kernel_rfl))
  (try simp only [Act.put, List.setIfInBounds_toArray, List.set_cons_zero, List.set_cons_succ])
  refine wpAnyH_take (i := 37) (oi := ?oi37) (v := (.pointer (some ⟨b, 0, none⟩))) ?hi37 (by as_aux_lemma => kernel_rfl) (by as_aux_lemma => kernel_rfl) (by as_aux_lemma => kernel_rfl) ?hQ37 (Or.inl ⟨?hw37, ?hy37⟩) trivial ?r37
  case hi37 => (simp only [List.getElem?_toArray, List.getElem?_cons_succ, List.getElem?_cons_zero]; rfl)
  case hQ37 => exact fun _ _ _ h => h
  case hw37 => rfl
  case hy37 => (intro w hSw; exact (by as_aux_lemma => kernel_rfl))
  (try simp only [Act.put, List.setIfInBounds_toArray, List.set_cons_zero, List.set_cons_succ])
  refine wpAnyH_take (i := 38) (oi := ?oi38) (v := (.pointer (some ⟨b, 9, none⟩))) ?hi38 (by as_aux_lemma => kernel_rfl) (by as_aux_lemma => kernel_rfl) (by as_aux_lemma => kernel_rfl) ?hQ38 (Or.inl ⟨?hw38, ?hy38⟩) trivial ?r38
  case hi38 => (simp only [List.getElem?_toArray, List.getElem?_cons_succ, List.getElem?_cons_zero]; rfl)
  case hQ38 => exact fun _ _ _ h => h
  case hw38 => rfl
  case hy38 => (intro w hSw; exact (by as_aux_lemma => kernel_rfl))
  (try simp only [Act.put, List.setIfInBounds_toArray, List.set_cons_zero, List.set_cons_succ])
  refine wpAnyH_take (i := 39) (oi := ?oi39) (v := (.agg #[.pointer none, .pointer (some ⟨b, 9, none⟩)])) ?hi39 (by as_aux_lemma => kernel_rfl) (by as_aux_lemma => kernel_rfl) (by as_aux_lemma => kernel_rfl) ?hQ39 (Or.inl ⟨?hw39, ?hy39⟩) trivial ?r39
  case hi39 => (simp only [List.getElem?_toArray, List.getElem?_cons_succ, List.getElem?_cons_zero]; rfl)
  case hQ39 => exact fun _ _ _ h => h
  case hw39 => rfl
  case hy39 => (intro w hSw; exact (by as_aux_lemma => kernel_rfl))
  (try simp only [Act.put, List.setIfInBounds_toArray, List.set_cons_zero, List.set_cons_succ])
  refine wpAnyH_take (i := 40) (oi := ?oi40) (v := (.pointer (some ⟨b, 0, none⟩))) ?hi40 (by as_aux_lemma => kernel_rfl) (by as_aux_lemma => kernel_rfl) (by as_aux_lemma => kernel_rfl) ?hQ40 (Or.inl ⟨?hw40, ?hy40⟩) trivial ?r40
  case hi40 => (simp only [List.getElem?_toArray, List.getElem?_cons_succ, List.getElem?_cons_zero]; rfl)
  case hQ40 => exact fun _ _ _ h => h
  case hw40 => rfl
  case hy40 => (intro w hSw; exact (by as_aux_lemma => kernel_rfl))
  (try simp only [Act.put, List.setIfInBounds_toArray, List.set_cons_zero, List.set_cons_succ])
  refine wpAnyH_take (i := 41) (oi := ?oi41) (v := (.pointer (some ⟨b, 0, none⟩))) ?hi41 (by as_aux_lemma => kernel_rfl) (by as_aux_lemma => kernel_rfl) (by as_aux_lemma => kernel_rfl) ?hQ41 (Or.inl ⟨?hw41, ?hy41⟩) trivial ?r41
  case hi41 => (simp only [List.getElem?_toArray, List.getElem?_cons_succ, List.getElem?_cons_zero]; rfl)
  case hQ41 => exact fun _ _ _ h => h
  case hw41 => rfl
  case hy41 => (intro w hSw; exact (by as_aux_lemma => kernel_rfl))
  (try simp only [Act.put, List.setIfInBounds_toArray, List.set_cons_zero, List.set_cons_succ])
  refine wpAnyH_take (i := 42) (oi := ?oi42) (v := (.pointer (some ⟨b, 10, none⟩))) ?hi42 (by as_aux_lemma => kernel_rfl) (by as_aux_lemma => kernel_rfl) (by as_aux_lemma => kernel_rfl) ?hQ42 (Or.inl ⟨?hw42, ?hy42⟩) trivial ?r42
  case hi42 => (simp only [List.getElem?_toArray, List.getElem?_cons_succ, List.getElem?_cons_zero]; rfl)
  case hQ42 => exact fun _ _ _ h => h
  case hw42 => rfl
  case hy42 => (intro w hSw; exact (by as_aux_lemma => kernel_rfl))
  (try simp only [Act.put, List.setIfInBounds_toArray, List.set_cons_zero, List.set_cons_succ])
  refine wpAnyH_take (i := 43) (oi := ?oi43) (v := (.agg #[.pointer none, .pointer (some ⟨b, 10, none⟩)])) ?hi43 (by as_aux_lemma => kernel_rfl) (by as_aux_lemma => kernel_rfl) (by as_aux_lemma => kernel_rfl) ?hQ43 (Or.inl ⟨?hw43, ?hy43⟩) trivial ?r43
  case hi43 => (simp only [List.getElem?_toArray, List.getElem?_cons_succ, List.getElem?_cons_zero]; rfl)
  case hQ43 => exact fun _ _ _ h => h
  case hw43 => rfl
  case hy43 => (intro w hSw; exact (by as_aux_lemma => kernel_rfl))
  (try simp only [Act.put, List.setIfInBounds_toArray, List.set_cons_zero, List.set_cons_succ])
  refine wpAnyH_take (i := 44) (oi := ?oi44) (v := (.pointer (some ⟨b, 0, none⟩))) ?hi44 (by as_aux_lemma => kernel_rfl) (by as_aux_lemma => kernel_rfl) (by as_aux_lemma => kernel_rfl) ?hQ44 (Or.inl ⟨?hw44, ?hy44⟩) trivial ?r44
  case hi44 => (simp only [List.getElem?_toArray, List.getElem?_cons_succ, List.getElem?_cons_zero]; rfl)
  case hQ44 => exact fun _ _ _ h => h
  case hw44 => rfl
  case hy44 => (intro w hSw; exact (by as_aux_lemma => kernel_rfl))
  (try simp only [Act.put, List.setIfInBounds_toArray, List.set_cons_zero, List.set_cons_succ])
  refine wpAnyH_take (i := 45) (oi := ?oi45) (v := (.pointer (some ⟨b, 0, none⟩))) ?hi45 (by as_aux_lemma => kernel_rfl) (by as_aux_lemma => kernel_rfl) (by as_aux_lemma => kernel_rfl) ?hQ45 (Or.inl ⟨?hw45, ?hy45⟩) trivial ?r45
  case hi45 => (simp only [List.getElem?_toArray, List.getElem?_cons_succ, List.getElem?_cons_zero]; rfl)
  case hQ45 => exact fun _ _ _ h => h
  case hw45 => rfl
  case hy45 => (intro w hSw; exact (by as_aux_lemma => kernel_rfl))
  (try simp only [Act.put, List.setIfInBounds_toArray, List.set_cons_zero, List.set_cons_succ])
  refine wpAnyH_take (i := 46) (oi := ?oi46) (v := (.pointer (some ⟨b, 11, none⟩))) ?hi46 (by as_aux_lemma => kernel_rfl) (by as_aux_lemma => kernel_rfl) (by as_aux_lemma => kernel_rfl) ?hQ46 (Or.inl ⟨?hw46, ?hy46⟩) trivial ?r46
  case hi46 => (simp only [List.getElem?_toArray, List.getElem?_cons_succ, List.getElem?_cons_zero]; rfl)
  case hQ46 => exact fun _ _ _ h => h
  case hw46 => rfl
  case hy46 => (intro w hSw; exact (by as_aux_lemma => kernel_rfl))
  (try simp only [Act.put, List.setIfInBounds_toArray, List.set_cons_zero, List.set_cons_succ])
  refine wpAnyH_take (i := 47) (oi := ?oi47) (v := (.agg #[.pointer none, .pointer (some ⟨b, 11, none⟩)])) ?hi47 (by as_aux_lemma => kernel_rfl) (by as_aux_lemma => kernel_rfl) (by as_aux_lemma => kernel_rfl) ?hQ47 (Or.inl ⟨?hw47, ?hy47⟩) trivial ?r47
  case hi47 => (simp only [List.getElem?_toArray, List.getElem?_cons_succ, List.getElem?_cons_zero]; rfl)
  case hQ47 => exact fun _ _ _ h => h
  case hw47 => rfl
  case hy47 => (intro w hSw; exact (by as_aux_lemma => kernel_rfl))
  (try simp only [Act.put, List.setIfInBounds_toArray, List.set_cons_zero, List.set_cons_succ])
  as_aux_lemma =>
  refine wpAnyH_take (i := 48) (oi := ?oi48) (v := (.pointer (some ⟨b, 0, none⟩))) ?hi48 (by as_aux_lemma => kernel_rfl) (by as_aux_lemma => kernel_rfl) (by as_aux_lemma => kernel_rfl) ?hQ48 (Or.inl ⟨?hw48, ?hy48⟩) trivial ?r48
  case hi48 => (simp only [List.getElem?_toArray, List.getElem?_cons_succ, List.getElem?_cons_zero]; rfl)
  case hQ48 => exact fun _ _ _ h => h
  case hw48 => rfl
  case hy48 => (intro w hSw; exact (by as_aux_lemma => kernel_rfl))
  (try simp only [Act.put, List.setIfInBounds_toArray, List.set_cons_zero, List.set_cons_succ])
  refine wpAnyH_take (i := 49) (oi := ?oi49) (v := (.pointer (some ⟨b, 0, none⟩))) ?hi49 (by as_aux_lemma => kernel_rfl) (by as_aux_lemma => kernel_rfl) (by as_aux_lemma => kernel_rfl) ?hQ49 (Or.inl ⟨?hw49, ?hy49⟩) trivial ?r49
  case hi49 => (simp only [List.getElem?_toArray, List.getElem?_cons_succ, List.getElem?_cons_zero]; rfl)
  case hQ49 => exact fun _ _ _ h => h
  case hw49 => rfl
  case hy49 => (intro w hSw; exact (by as_aux_lemma => kernel_rfl))
  (try simp only [Act.put, List.setIfInBounds_toArray, List.set_cons_zero, List.set_cons_succ])
  refine wpAnyH_take (i := 50) (oi := ?oi50) (v := (.pointer (some ⟨b, 12, none⟩))) ?hi50 (by as_aux_lemma => kernel_rfl) (by as_aux_lemma => kernel_rfl) (by as_aux_lemma => kernel_rfl) ?hQ50 (Or.inl ⟨?hw50, ?hy50⟩) trivial ?r50
  case hi50 => (simp only [List.getElem?_toArray, List.getElem?_cons_succ, List.getElem?_cons_zero]; rfl)
  case hQ50 => exact fun _ _ _ h => h
  case hw50 => rfl
  case hy50 => (intro w hSw; exact (by as_aux_lemma => kernel_rfl))
  (try simp only [Act.put, List.setIfInBounds_toArray, List.set_cons_zero, List.set_cons_succ])
  refine wpAnyH_take (i := 51) (oi := ?oi51) (v := (.agg #[.pointer none, .pointer (some ⟨b, 12, none⟩)])) ?hi51 (by as_aux_lemma => kernel_rfl) (by as_aux_lemma => kernel_rfl) (by as_aux_lemma => kernel_rfl) ?hQ51 (Or.inl ⟨?hw51, ?hy51⟩) trivial ?r51
  case hi51 => (simp only [List.getElem?_toArray, List.getElem?_cons_succ, List.getElem?_cons_zero]; rfl)
  case hQ51 => exact fun _ _ _ h => h
  case hw51 => rfl
  case hy51 => (intro w hSw; exact (by as_aux_lemma => kernel_rfl))
  (try simp only [Act.put, List.setIfInBounds_toArray, List.set_cons_zero, List.set_cons_succ])
  refine wpAnyH_take (i := 52) (oi := ?oi52) (v := (.pointer (some ⟨b, 0, none⟩))) ?hi52 (by as_aux_lemma => kernel_rfl) (by as_aux_lemma => kernel_rfl) (by as_aux_lemma => kernel_rfl) ?hQ52 (Or.inl ⟨?hw52, ?hy52⟩) trivial ?r52
  case hi52 => (simp only [List.getElem?_toArray, List.getElem?_cons_succ, List.getElem?_cons_zero]; rfl)
  case hQ52 => exact fun _ _ _ h => h
  case hw52 => rfl
  case hy52 => (intro w hSw; exact (by as_aux_lemma => kernel_rfl))
  (try simp only [Act.put, List.setIfInBounds_toArray, List.set_cons_zero, List.set_cons_succ])
  refine wpAnyH_take (i := 53) (oi := ?oi53) (v := (.pointer (some ⟨b, 0, none⟩))) ?hi53 (by as_aux_lemma => kernel_rfl) (by as_aux_lemma => kernel_rfl) (by as_aux_lemma => kernel_rfl) ?hQ53 (Or.inl ⟨?hw53, ?hy53⟩) trivial ?r53
  case hi53 => (simp only [List.getElem?_toArray, List.getElem?_cons_succ, List.getElem?_cons_zero]; rfl)
  case hQ53 => exact fun _ _ _ h => h
  case hw53 => rfl
  case hy53 => (intro w hSw; exact (by as_aux_lemma => kernel_rfl))
  (try simp only [Act.put, List.setIfInBounds_toArray, List.set_cons_zero, List.set_cons_succ])
  refine wpAnyH_take (i := 54) (oi := ?oi54) (v := (.pointer (some ⟨b, 13, none⟩))) ?hi54 (by as_aux_lemma => kernel_rfl) (by as_aux_lemma => kernel_rfl) (by as_aux_lemma => kernel_rfl) ?hQ54 (Or.inl ⟨?hw54, ?hy54⟩) trivial ?r54
  case hi54 => (simp only [List.getElem?_toArray, List.getElem?_cons_succ, List.getElem?_cons_zero]; rfl)
  case hQ54 => exact fun _ _ _ h => h
  case hw54 => rfl
  case hy54 => (intro w hSw; exact (by as_aux_lemma => kernel_rfl))
  (try simp only [Act.put, List.setIfInBounds_toArray, List.set_cons_zero, List.set_cons_succ])
  refine wpAnyH_take (i := 55) (oi := ?oi55) (v := (.agg #[.pointer none, .pointer (some ⟨b, 13, none⟩)])) ?hi55 (by as_aux_lemma => kernel_rfl) (by as_aux_lemma => kernel_rfl) (by as_aux_lemma => kernel_rfl) ?hQ55 (Or.inl ⟨?hw55, ?hy55⟩) trivial ?r55
  case hi55 => (simp only [List.getElem?_toArray, List.getElem?_cons_succ, List.getElem?_cons_zero]; rfl)
  case hQ55 => exact fun _ _ _ h => h
  case hw55 => rfl
  case hy55 => (intro w hSw; exact (by as_aux_lemma => kernel_rfl))
  (try simp only [Act.put, List.setIfInBounds_toArray, List.set_cons_zero, List.set_cons_succ])
  refine wpAnyH_take (i := 56) (oi := ?oi56) (v := (.pointer (some ⟨b, 0, none⟩))) ?hi56 (by as_aux_lemma => kernel_rfl) (by as_aux_lemma => kernel_rfl) (by as_aux_lemma => kernel_rfl) ?hQ56 (Or.inl ⟨?hw56, ?hy56⟩) trivial ?r56
  case hi56 => (simp only [List.getElem?_toArray, List.getElem?_cons_succ, List.getElem?_cons_zero]; rfl)
  case hQ56 => exact fun _ _ _ h => h
  case hw56 => rfl
  case hy56 => (intro w hSw; exact (by as_aux_lemma => kernel_rfl))
  (try simp only [Act.put, List.setIfInBounds_toArray, List.set_cons_zero, List.set_cons_succ])
  refine wpAnyH_take (i := 57) (oi := ?oi57) (v := (.pointer (some ⟨b, 0, none⟩))) ?hi57 (by as_aux_lemma => kernel_rfl) (by as_aux_lemma => kernel_rfl) (by as_aux_lemma => kernel_rfl) ?hQ57 (Or.inl ⟨?hw57, ?hy57⟩) trivial ?r57
  case hi57 => (simp only [List.getElem?_toArray, List.getElem?_cons_succ, List.getElem?_cons_zero]; rfl)
  case hQ57 => exact fun _ _ _ h => h
  case hw57 => rfl
  case hy57 => (intro w hSw; exact (by as_aux_lemma => kernel_rfl))
  (try simp only [Act.put, List.setIfInBounds_toArray, List.set_cons_zero, List.set_cons_succ])
  refine wpAnyH_take (i := 58) (oi := ?oi58) (v := (.pointer (some ⟨b, 14, none⟩))) ?hi58 (by as_aux_lemma => kernel_rfl) (by as_aux_lemma => kernel_rfl) (by as_aux_lemma => kernel_rfl) ?hQ58 (Or.inl ⟨?hw58, ?hy58⟩) trivial ?r58
  case hi58 => (simp only [List.getElem?_toArray, List.getElem?_cons_succ, List.getElem?_cons_zero]; rfl)
  case hQ58 => exact fun _ _ _ h => h
  case hw58 => rfl
  case hy58 => (intro w hSw; exact (by as_aux_lemma => kernel_rfl))
  (try simp only [Act.put, List.setIfInBounds_toArray, List.set_cons_zero, List.set_cons_succ])
  refine wpAnyH_take (i := 59) (oi := ?oi59) (v := (.agg #[.pointer none, .pointer (some ⟨b, 14, none⟩)])) ?hi59 (by as_aux_lemma => kernel_rfl) (by as_aux_lemma => kernel_rfl) (by as_aux_lemma => kernel_rfl) ?hQ59 (Or.inl ⟨?hw59, ?hy59⟩) trivial ?r59
  case hi59 => (simp only [List.getElem?_toArray, List.getElem?_cons_succ, List.getElem?_cons_zero]; rfl)
  case hQ59 => exact fun _ _ _ h => h
  case hw59 => rfl
  case hy59 => (intro w hSw; exact (by as_aux_lemma => kernel_rfl))
  (try simp only [Act.put, List.setIfInBounds_toArray, List.set_cons_zero, List.set_cons_succ])
  refine wpAnyH_take (i := 60) (oi := ?oi60) (v := (.pointer (some ⟨b, 0, none⟩))) ?hi60 (by as_aux_lemma => kernel_rfl) (by as_aux_lemma => kernel_rfl) (by as_aux_lemma => kernel_rfl) ?hQ60 (Or.inl ⟨?hw60, ?hy60⟩) trivial ?r60
  case hi60 => (simp only [List.getElem?_toArray, List.getElem?_cons_succ, List.getElem?_cons_zero]; rfl)
  case hQ60 => exact fun _ _ _ h => h
  case hw60 => rfl
  case hy60 => (intro w hSw; exact (by as_aux_lemma => kernel_rfl))
  (try simp only [Act.put, List.setIfInBounds_toArray, List.set_cons_zero, List.set_cons_succ])
  refine wpAnyH_take (i := 61) (oi := ?oi61) (v := (.pointer (some ⟨b, 0, none⟩))) ?hi61 (by as_aux_lemma => kernel_rfl) (by as_aux_lemma => kernel_rfl) (by as_aux_lemma => kernel_rfl) ?hQ61 (Or.inl ⟨?hw61, ?hy61⟩) trivial ?r61
  case hi61 => (simp only [List.getElem?_toArray, List.getElem?_cons_succ, List.getElem?_cons_zero]; rfl)
  case hQ61 => exact fun _ _ _ h => h
  case hw61 => rfl
  case hy61 => (intro w hSw; exact (by as_aux_lemma => kernel_rfl))
  (try simp only [Act.put, List.setIfInBounds_toArray, List.set_cons_zero, List.set_cons_succ])
  refine wpAnyH_take (i := 62) (oi := ?oi62) (v := (.pointer (some ⟨b, 15, none⟩))) ?hi62 (by as_aux_lemma => kernel_rfl) (by as_aux_lemma => kernel_rfl) (by as_aux_lemma => kernel_rfl) ?hQ62 (Or.inl ⟨?hw62, ?hy62⟩) trivial ?r62
  case hi62 => (simp only [List.getElem?_toArray, List.getElem?_cons_succ, List.getElem?_cons_zero]; rfl)
  case hQ62 => exact fun _ _ _ h => h
  case hw62 => rfl
  case hy62 => (intro w hSw; exact (by as_aux_lemma => kernel_rfl))
  (try simp only [Act.put, List.setIfInBounds_toArray, List.set_cons_zero, List.set_cons_succ])
  refine wpAnyH_take (i := 63) (oi := ?oi63) (v := (.agg #[.pointer none, .pointer (some ⟨b, 15, none⟩)])) ?hi63 (by as_aux_lemma => kernel_rfl) (by as_aux_lemma => kernel_rfl) (by as_aux_lemma => kernel_rfl) ?hQ63 (Or.inl ⟨?hw63, ?hy63⟩) trivial ?r63
  case hi63 => (simp only [List.getElem?_toArray, List.getElem?_cons_succ, List.getElem?_cons_zero]; rfl)
  case hQ63 => exact fun _ _ _ h => h
  case hw63 => rfl
  case hy63 => (intro w hSw; exact (by as_aux_lemma => kernel_rfl))
  (try simp only [Act.put, List.setIfInBounds_toArray, List.set_cons_zero, List.set_cons_succ])
  as_aux_lemma =>
  refine wpAnyH_take (i := 64) (oi := ?oi64) (v := (.agg #[.pointer (some ⟨b, 0, none⟩), .pointer none, .pointer (some ⟨b, 1, none⟩), .pointer none, .pointer none, .pointer (some ⟨b, 2, none⟩), .pointer none, .pointer (some ⟨b, 3, none⟩), .pointer (some ⟨b, 4, none⟩), .pointer none, .pointer none, .pointer (some ⟨b, 5, none⟩), .pointer (some ⟨b, 6, none⟩), .pointer none, .pointer (some ⟨b, 7, none⟩), .pointer none, .pointer (some ⟨b, 8, none⟩), .pointer none, .pointer none, .pointer (some ⟨b, 9, none⟩), .pointer none, .pointer (some ⟨b, 10, none⟩), .pointer none, .pointer (some ⟨b, 11, none⟩), .pointer none, .pointer (some ⟨b, 12, none⟩), .pointer none, .pointer (some ⟨b, 13, none⟩), .pointer none, .pointer (some ⟨b, 14, none⟩), .pointer none, .pointer (some ⟨b, 15, none⟩)])) ?hi64 (by as_aux_lemma => kernel_rfl) (by as_aux_lemma => kernel_rfl) (by as_aux_lemma => kernel_rfl) ?hQ64 (Or.inl ⟨?hw64, ?hy64⟩) trivial ?r64
  case hi64 => (simp only [List.getElem?_toArray, List.getElem?_cons_succ, List.getElem?_cons_zero]; rfl)
  case hQ64 => exact fun _ _ _ h => h
  case hw64 => rfl
  case hy64 => (intro w hSw; exact (by as_aux_lemma => kernel_rfl))
  (try simp only [Act.put, List.setIfInBounds_toArray, List.set_cons_zero, List.set_cons_succ])
  as_aux_lemma =>
  refine wpAnyH_ready (rs := [65]) (by as_aux_lemma => kernel_rfl) (by simp) ?_
  refine AllReadyH.cons (o := ?oi65) ?hi65 ?hc65 AllReadyH.nil
  case hi65 => (simp only [List.getElem?_toArray, List.getElem?_cons_succ, List.getElem?_cons_zero]; rfl)
  intro K hK
  rw [if_pos (show Region.wanted _ _ = true from rfl)]
  refine wp_store_row 117 (.tmp 2) (.tmp 67) rfl w.heap.size #[.pointer (some ⟨b, 0, none⟩), .pointer none, .pointer (some ⟨b, 1, none⟩), .pointer none, .pointer none, .pointer (some ⟨b, 2, none⟩), .pointer none, .pointer (some ⟨b, 3, none⟩), .pointer (some ⟨b, 4, none⟩), .pointer none, .pointer none, .pointer (some ⟨b, 5, none⟩), .pointer (some ⟨b, 6, none⟩), .pointer none, .pointer (some ⟨b, 7, none⟩), .pointer none, .pointer (some ⟨b, 8, none⟩), .pointer none, .pointer none, .pointer (some ⟨b, 9, none⟩), .pointer none, .pointer (some ⟨b, 10, none⟩), .pointer none, .pointer (some ⟨b, 11, none⟩), .pointer none, .pointer (some ⟨b, 12, none⟩), .pointer none, .pointer (some ⟨b, 13, none⟩), .pointer none, .pointer (some ⟨b, 14, none⟩), .pointer none, .pointer (some ⟨b, 15, none⟩)] rfl rfl 117 #[.pointer none, .pointer none, .pointer none, .pointer none, .pointer none, .pointer none, .pointer none, .pointer none, .pointer none, .pointer none, .pointer none, .pointer none, .pointer none, .pointer none, .pointer none, .pointer none, .pointer none, .pointer none, .pointer none, .pointer none, .pointer none, .pointer none, .pointer none, .pointer none, .pointer none, .pointer none, .pointer none, .pointer none, .pointer none, .pointer none, .pointer none, .pointer none] (drew_heapE (heap_new w _)) (by as_aux_lemma => kernel_rfl) rfl (by as_aux_lemma => kernel_rfl) ?_
  refine hK.out _ _ trivial (fun hHeld => ?rz2)
  clear hK K
  refine wpAnyH_done (by as_aux_lemma => kernel_rfl) ?_ _
  have hrow := setRow_heap _ _ _ #[.pointer (some ⟨b, 0, none⟩), .pointer none, .pointer (some ⟨b, 1, none⟩), .pointer none, .pointer none, .pointer (some ⟨b, 2, none⟩), .pointer none, .pointer (some ⟨b, 3, none⟩), .pointer (some ⟨b, 4, none⟩), .pointer none, .pointer none, .pointer (some ⟨b, 5, none⟩), .pointer (some ⟨b, 6, none⟩), .pointer none, .pointer (some ⟨b, 7, none⟩), .pointer none, .pointer (some ⟨b, 8, none⟩), .pointer none, .pointer none, .pointer (some ⟨b, 9, none⟩), .pointer none, .pointer (some ⟨b, 10, none⟩), .pointer none, .pointer (some ⟨b, 11, none⟩), .pointer none, .pointer (some ⟨b, 12, none⟩), .pointer none, .pointer (some ⟨b, 13, none⟩), .pointer none, .pointer (some ⟨b, 14, none⟩), .pointer none, .pointer (some ⟨b, 15, none⟩)] _ _ (drew_heapE (heap_new w (.cells #[.pointer none, .pointer none, .pointer none, .pointer none, .pointer none, .pointer none, .pointer none, .pointer none, .pointer none, .pointer none, .pointer none, .pointer none, .pointer none, .pointer none, .pointer none, .pointer none, .pointer none, .pointer none, .pointer none, .pointer none, .pointer none, .pointer none, .pointer none, .pointer none, .pointer none, .pointer none, .pointer none, .pointer none, .pointer none, .pointer none, .pointer none, .pointer none] 117)))
  have hbel := below_setRow (drew_belowE ((Below.refl w.heap.size w).alloc (Nat.le_refl _) (.cells #[.pointer none, .pointer none, .pointer none, .pointer none, .pointer none, .pointer none, .pointer none, .pointer none, .pointer none, .pointer none, .pointer none, .pointer none, .pointer none, .pointer none, .pointer none, .pointer none, .pointer none, .pointer none, .pointer none, .pointer none, .pointer none, .pointer none, .pointer none, .pointer none, .pointer none, .pointer none, .pointer none, .pointer none, .pointer none, .pointer none, .pointer none, .pointer none] 117))) w.heap.size (Nat.le_refl _) #[.pointer (some ⟨b, 0, none⟩), .pointer none, .pointer (some ⟨b, 1, none⟩), .pointer none, .pointer none, .pointer (some ⟨b, 2, none⟩), .pointer none, .pointer (some ⟨b, 3, none⟩), .pointer (some ⟨b, 4, none⟩), .pointer none, .pointer none, .pointer (some ⟨b, 5, none⟩), .pointer (some ⟨b, 6, none⟩), .pointer none, .pointer (some ⟨b, 7, none⟩), .pointer none, .pointer (some ⟨b, 8, none⟩), .pointer none, .pointer none, .pointer (some ⟨b, 9, none⟩), .pointer none, .pointer (some ⟨b, 10, none⟩), .pointer none, .pointer (some ⟨b, 11, none⟩), .pointer none, .pointer (some ⟨b, 12, none⟩), .pointer none, .pointer (some ⟨b, 13, none⟩), .pointer none, .pointer (some ⟨b, 14, none⟩), .pointer none, .pointer (some ⟨b, 15, none⟩)]
  generalize World.setRow _ _ _ = W2 at hrow hbel ⊢
  go_wp2_with fail
  exact bodyPost_ret (v := cellsV b) (results_cell_row rfl _ _ w.heap.size 117 _ (0, 0) _ rfl hrow Try.underlying117 rfl (by as_aux_lemma => kernel_rfl)) rfl ⟨rfl, hbel⟩

end Go.Proofs.Ythhkcckikmldcaa
