/-
  Reading: what both Reads keep while they read; the contract of the document's symbol. (Written by gen_rd3.py, a program of this session's own.)
-/
import Derived.Test.YthhkcckikmldcaaRdQ
set_option linter.unusedVariables false
set_option linter.unusedSimpArgs false
namespace Go.Proofs.Ythhkcckikmldcaa
open Go.RowKit

def numsL (k : Nat) (f : Nat → Int) : List Value := (List.range k).map fun j => Value.int .i64 (f j)
def tabVs (k : Nat) (S : Nat → Nat → Int) : Nat → List Value
  | 0 => []
  | n + 1 => tabVs k S n ++ numsL k (S n)
theorem tabL_len (k : Nat) (S : Nat → Nat → Int) (n : Nat) : (tabVs k S n).length = n * k := by
  induction n with
  | zero => simp [tabVs]
  | succ n ih => simp [tabVs, ih, numsL, Nat.succ_mul]
theorem tabL_get {k : Nat} {S : Nat → Nat → Int} {n i j : Nat} (hi : i < n) (hj : j < k) : (tabVs k S n)[i * k + j]? = some (.int .i64 (S i j)) := by
  induction n with
  | zero => exact absurd hi (Nat.not_lt_zero _)
  | succ n ih =>
    have hl := tabL_len k S n
    have hm : i * k + j < (i + 1) * k := by rw [Nat.succ_mul]; omega
    simp only [tabVs]
    by_cases e : i < n
    · have : (i + 1) * k ≤ n * k := Nat.mul_le_mul_right _ e
      rw [List.getElem?_append_left (by omega)]
      exact ih e
    · obtain rfl : i = n := by omega
      rw [List.getElem?_append_right (by omega), hl, show i * k + j - i * k = j by omega]
      simp [numsL, hj]
theorem own_tab {w : World} {base e k n : Nat} {v : Value} {S : Nat → Nat → Int} (h : w.ownsRow base e k v n (tabVs k S n)) : ∃ A c, v = .slice A n c ∧ Tab w A n k S ∧ n ≤ c ∧ c ≤ maxLen := by
  rcases h.2 with ⟨rfl, rfl⟩ | ⟨g, cap, cur, rfl, hb, hh, hnc, hcm, hsz, htk⟩
  · exact ⟨none, 0, rfl, fun h => absurd h (Nat.lt_irrefl _), Nat.le_refl _, Nat.zero_le _⟩
  · refine ⟨_, cap, rfl, fun hn => ⟨g, 0, rfl, fun i hi j hj => ?_⟩, hnc, hcm⟩
    rw [Nat.zero_add]
    refine cell_heap (cs := cur) (t := e) (fr := (0, 0)) hh ?_
    have hg := tabL_get (S := S) hi hj
    have hlt : i * k + j < n * k := by
      have : (i + 1) * k ≤ n * k := Nat.mul_le_mul_right _ hi
      have hm : i * k + j < (i + 1) * k := by rw [Nat.succ_mul]; omega
      omega
    rw [← htk, List.getElem?_take_of_lt hlt] at hg
    simpa using hg
theorem own_keep {w w1 : World} {base e k n : Nat} {v : Value} {xs : List Value} (h : w.ownsRow base e k v n xs) (hk : ∀ g, base ≤ g → g < w.heap.size → w1.heap[g]? = w.heap[g]?) : w1.ownsRow base e k v n xs := by
  refine ⟨h.1, ?_⟩
  rcases h.2 with hn | ⟨g, cap, cur, rfl, hb, hgg, rest⟩
  · exact .inl hn
  · exact .inr ⟨g, cap, cur, rfl, hb, (hk g hb (lt_of_heap hgg)).trans hgg, rest⟩

/-- What both Reads keep: the result's block as it was laid, the configuration in block C, its symbols and rows in blocks of the call's own. -/
structure CI (w : World) (C base : Nat) (v0 v1 : Value) (n m : Nat) (S R : Nat → Nat → Int) (x : Nat → Int) (wr : World) : Prop where
  below : Below w.heap.size w wr
  res : wr.heap[w.heap.size]? = some (.cells #[.slice none 0 0, .slice none 0 0, .int .i64 0, .int .i64 0, .int .i64 0, .int .i64 0, .int .i64 0, .int .i64 0] 35 (0, 0))
  cfg : wr.heap[C]? = some (.cells #[v0, v1, .int .i64 (x 0), .int .i64 (x 1), .int .i64 (x 2), .int .i64 (x 3), .int .i64 (x 4), .int .i64 (x 5)] 35 (0, 0))
  syms : wr.ownsRow base 56 16 v0 n (tabVs 16 S n)
  rows : wr.ownsRow base 53 2 v1 m (tabVs 2 R m)
  hC : w.heap.size < C ∧ C < base
  hb : base ≤ wr.heap.size
section
variable {w wr w1 : World} {C base : Nat} {v0 v1 : Value} {n m : Nat} {S R : Nat → Nat → Int} {x : Nat → Int}
theorem CI.keep (h : CI w C base v0 v1 n m S R x wr) (hb : Below w.heap.size w w1) (hs : wr.heap.size ≤ w1.heap.size) (hk : ∀ k, k < wr.heap.size → (k = w.heap.size ∨ C ≤ k) → w1.heap[k]? = wr.heap[k]?) : CI w C base v0 v1 n m S R x w1 := by
  have h1 := h.hC
  have h2 := h.hb
  exact ⟨hb, (hk _ (lt_of_heap h.res) (.inl rfl)).trans h.res, (hk _ (lt_of_heap h.cfg) (.inr (Nat.le_refl _))).trans h.cfg, own_keep h.syms (fun g hg hlt => hk g hlt (.inr (by omega))), own_keep h.rows (fun g hg hlt => hk g hlt (.inr (by omega))), h1, by omega⟩
theorem CI.under (h : CI w C base v0 v1 n m S R x wr) (hb : Below wr.heap.size wr w1) : CI w C base v0 v1 n m S R x w1 := h.keep (below_all h.below hb) hb.size (fun k hk _ => hb.block k hk)
theorem CI.alloc (h : CI w C base v0 v1 n m S R x wr) (o : Obj) : CI w C base v0 v1 n m S R x (wr.alloc o) := h.under ((Below.refl _ _).alloc (Nat.le_refl _) o)
theorem CI.drew (h : CI w C base v0 v1 n m S R x wr) : CI w C base v0 v1 n m S R x wr.drew := h.under (below_drewN (Below.refl _ _) 1)
/-- A store into a block that is neither the configuration's nor one of its lists. -/
theorem CI.set (h : CI w C base v0 v1 n m S R x wr) {Q : Nat} {cs : Array Value} {t : TypeId} (hQ : wr.heap[Q]? = some (.cells cs t (0, 0))) (ht : t ≠ 35 ∧ t ≠ 56 ∧ t ≠ 53) (hQw : w.heap.size ≤ Q) (j : Nat) (v : Value) : CI w C base v0 v1 n m S R x (wr.setCell ⟨Q, j, none⟩ v) := by
  have hne : ∀ {e k n : Nat} {v : Value} {xs : List Value}, wr.ownsRow base e k v n xs → t ≠ e → v.ownBlock = none ∨ v.ownBlock ≠ some Q := fun {e k n v xs} ho hte => by
    rcases ho.2 with ⟨rfl, _⟩ | ⟨g, cap, cur, rfl, hb, hh, _⟩
    · exact .inl rfl
    · refine .inr ?_
      intro e
      simp only [Value.ownBlock] at e
      injection e with e
      subst e
      rw [hQ] at hh
      simp at hh
      exact hte hh.2
  have hkeep : ∀ {k : Nat} {cs' : Array Value} {t' : TypeId}, wr.heap[k]? = some (.cells cs' t' (0, 0)) → t ≠ t' → (wr.setCell ⟨Q, j, none⟩ v).heap[k]? = some (.cells cs' t' (0, 0)) := fun {k cs' t'} hk hte => by
    refine heap_setOther hk ?_ j v
    rintro rfl
    rw [hQ] at hk
    simp at hk
    exact hte hk.2
  exact ⟨h.below.setCell hQw v, hkeep h.res ht.1, hkeep h.cfg ht.1, h.syms.kept (Lib.grownBy_setCell _ _ _ _) (hne h.syms ht.2.1), h.rows.kept (Lib.grownBy_setCell _ _ _ _) (hne h.rows ht.2.2), h.hC, by rw [World.size_setCell]; exact h.hb⟩
theorem own_ne {k k' n n' e e' : Nat} {v v' : Value} {xs xs' : List Value} (h : wr.ownsRow base e k v n xs) (h' : wr.ownsRow base e' k' v' n' xs') (he : e ≠ e') : v'.ownBlock = none ∨ v'.ownBlock ≠ v.ownBlock := by
  rcases h'.2 with ⟨rfl, _⟩ | ⟨g', cap', cur', rfl, hb', hh', _⟩
  · exact .inl rfl
  · refine .inr ?_
    rcases h.2 with ⟨rfl, _⟩ | ⟨g, cap, cur, rfl, hb, hh, _⟩
    · intro e; cases e
    · intro e
      simp only [Value.ownBlock] at e
      injection e with e
      subst e
      rw [hh] at hh'
      simp at hh'
      exact he hh'.2
theorem CI.row_lt (h : CI w C base v0 v1 n m S R x wr) {e k n' : Nat} {v : Value} {xs : List Value} (ho : wr.ownsRow base e k v n' xs) : ∀ g, v.ownBlock = some g → C < g ∧ w.heap.size < g := fun g hg => by
  have := ho.lt g hg
  have := h.hC
  omega
/-- A symbol is appended, and stored back. -/
theorem CI.app0 (h : CI w C base v0 v1 n m S R x wr) {v' : Value} {o : Obj} (hg : (wr.alloc o).grownBy w1 v0.ownBlock) (ho : w1.ownsRow base 56 16 v' (n + 1) (tabVs 16 S n ++ numsL 16 (S n))) :
    CI w C base v' v1 (n + 1) m S R x (w1.setCell ⟨C, 0, none⟩ v') := by
  have hl := fun g hg => h.row_lt h.syms g hg
  have a1 := grown_keep hg (alloc_old o h.res) (fun e => by have := hl _ e.symm; omega)
  have a2 := grown_keep hg (alloc_old o h.cfg) (fun e => by have := hl _ e.symm; omega)
  have h1 := h.hC
  have h2 := h.hb
  have h3 := hg.size
  simp only [World.size_alloc] at h3
  refine ⟨?_, heap_setOther a1 (by omega) 0 v', ?_, ?_, ?_, h1, by rw [World.size_setCell]; omega⟩
  · exact ((h.below.alloc h.below.size o).grown hg (by rw [World.size_alloc]; omega) (fun g e => by have := hl g e; omega)).setCell (show w.heap.size ≤ C by omega) v'
  · have := heap_setSame a2 0 v'
    simpa using this
  · exact ownsRow_setCell_below ho (show C < base by omega) _
  · exact ownsRow_setCell_below ((h.rows.alloc o).kept hg (own_ne h.syms h.rows (by decide))) (show C < base by omega) _
theorem CI.app1 (h : CI w C base v0 v1 n m S R x wr) {v' : Value} {o : Obj} (hg : (wr.alloc o).grownBy w1 v1.ownBlock) (ho : w1.ownsRow base 53 2 v' (m + 1) (tabVs 2 R m ++ numsL 2 (R m))) :
    CI w C base v0 v' n (m + 1) S R x (w1.setCell ⟨C, 1, none⟩ v') := by
  have hl := fun g hg => h.row_lt h.rows g hg
  have a1 := grown_keep hg (alloc_old o h.res) (fun e => by have := hl _ e.symm; omega)
  have a2 := grown_keep hg (alloc_old o h.cfg) (fun e => by have := hl _ e.symm; omega)
  have h1 := h.hC
  have h2 := h.hb
  have h3 := hg.size
  simp only [World.size_alloc] at h3
  refine ⟨?_, heap_setOther a1 (by omega) 1 v', ?_, ?_, ?_, h1, by rw [World.size_setCell]; omega⟩
  · exact ((h.below.alloc h.below.size o).grown hg (by rw [World.size_alloc]; omega) (fun g e => by have := hl g e; omega)).setCell (show w.heap.size ≤ C by omega) v'
  · have := heap_setSame a2 1 v'
    simpa using this
  · exact ownsRow_setCell_below ((h.syms.alloc o).kept hg (own_ne h.rows h.syms (by decide))) (show C < base by omega) _
  · exact ownsRow_setCell_below ho (show C < base by omega) _
/-- The numbers behind the rows, as far as they are read. -/
def xs (g : Nat → Int) (k : Nat) (j : Nat) : Int := if j < k then g j else 0
theorem CI.setx {g : Nat → Int} {k : Nat} (h : CI w C base v0 v1 n m S R (xs g k) wr) (hk : k < 6) (off : Nat) (hoff : off = 2 + k) : CI w C base v0 v1 n m S R (xs g (k + 1)) (wr.setCell ⟨C, off, none⟩ (.int .i64 (g k))) := by
  subst hoff
  have h1 := h.hC
  have h2 := h.hb
  refine ⟨h.below.setCell (show w.heap.size ≤ C by omega) _, heap_setOther h.res (by omega) _ _, ?_, ownsRow_setCell_below h.syms (show C < base by omega) _, ownsRow_setCell_below h.rows (show C < base by omega) _, h1, by rw [World.size_setCell]; exact h2⟩
  rw [heap_setSame h.cfg (2 + k) (.int .i64 (g k))]
  rcases (by omega : k = 0 ∨ k = 1 ∨ k = 2 ∨ k = 3 ∨ k = 4 ∨ k = 5) with rfl | rfl | rfl | rfl | rfl | rfl <;> simp [xs]
theorem CI.cell (h : CI w C base v0 v1 n m S R x wr) {j : Nat} {v : Value} (hj : (#[v0, v1, .int .i64 (x 0), .int .i64 (x 1), .int .i64 (x 2), .int .i64 (x 3), .int .i64 (x 4), .int .i64 (x 5)] : Array Value)[j]? = some v) : wr.cell? ⟨C, j, none⟩ = some v := cell_heap h.cfg hj
/-- What was read, as a configuration. -/
theorem CI.give (h : CI w C base v0 v1 n m S R x wr) (hS : ∀ i, i < n → ∀ j, j < 16 → i64Ok (S i j)) (hR : ∀ i, i < m → ∀ j, j < 2 → i64Ok (R i j)) (hx : ∀ j, j < 6 → i64Ok (x j)) :
    ∃ A c B d, v0 = .slice A n c ∧ v1 = .slice B m d ∧ CfgIn wr A n c B m d S R x := by
  obtain ⟨A, c, rfl, h1, h2, h3⟩ := own_tab h.syms
  obtain ⟨B, d, rfl, k1, k2, k3⟩ := own_tab h.rows
  exact ⟨A, c, B, d, rfl, rfl, h1, k1, h2, by simpa [maxLen] using h3, k2, by simpa [maxLen] using k3, hS, hR, hx⟩
end

/-- What a Read gives: the fault; the configuration where there is none, else an empty one. -/
def RdPost (l : List UInt8) (w : World) (e : Ending) (w' : World) : Prop := ∃ (A : Option Addr) (n c : Nat) (B : Option Addr) (m d : Nat) (S R : Nat → Nat → Int) (x : Nat → Int),
  e = .returned (.tuple #[.agg #[.slice A n c, .slice B m d, .int .i64 (x 0), .int .i64 (x 1), .int .i64 (x 2), .int .i64 (x 3), .int .i64 (x 4), .int .i64 (x 5)], .int .i64 (rdF l)]) ∧ CfgIn w' A n c B m d S R x ∧ RdOut l n m S R x ∧ Below w.heap.size w w'
/-- Nothing was read. -/
theorem rd_none {l : List UInt8} {w w' : World} {e : Ending} {f : Int} (he : e = .returned (.tuple #[.agg #[.slice none 0 0, .slice none 0 0, .int .i64 0, .int .i64 0, .int .i64 0, .int .i64 0, .int .i64 0, .int .i64 0], .int .i64 f])) (hf : rdF l = f) (h0 : f ≠ 0) (hb : Below w.heap.size w w') : RdPost l w e w' := by
  subst hf
  refine ⟨none, 0, 0, none, 0, 0, fun _ _ => 0, fun _ _ => 0, fun _ => 0, he, ⟨fun h => absurd h (Nat.lt_irrefl _), fun h => absurd h (Nat.lt_irrefl _), Nat.le_refl _, by omega, Nat.le_refl _, by omega, fun i hi => absurd hi (Nat.not_lt_zero _), fun i hi => absurd hi (Nat.not_lt_zero _), fun j hj => by unfold i64Ok; decide⟩, ⟨fun _ => ⟨rfl, rfl, fun _ _ => rfl⟩, fun h => absurd h h0⟩, hb⟩

/-- An array of numbers, as far as it is filled. -/
def mixA (f : Nat → Int) (j : Nat) : Array Value := #[.int .i64 (xs f j 0), .int .i64 (xs f j 1), .int .i64 (xs f j 2), .int .i64 (xs f j 3), .int .i64 (xs f j 4), .int .i64 (xs f j 5), .int .i64 (xs f j 6), .int .i64 (xs f j 7), .int .i64 (xs f j 8), .int .i64 (xs f j 9), .int .i64 (xs f j 10), .int .i64 (xs f j 11), .int .i64 (xs f j 12), .int .i64 (xs f j 13), .int .i64 (xs f j 14), .int .i64 (xs f j 15)]
theorem mix_set (f : Nat → Int) (j : Nat) (hj : j < 16) : (mixA f j).setIfInBounds j (.int .i64 (f j)) = mixA f (j + 1) := by
  rcases (by omega : j = 0 ∨ j = 1 ∨ j = 2 ∨ j = 3 ∨ j = 4 ∨ j = 5 ∨ j = 6 ∨ j = 7 ∨ j = 8 ∨ j = 9 ∨ j = 10 ∨ j = 11 ∨ j = 12 ∨ j = 13 ∨ j = 14 ∨ j = 15) with rfl | rfl | rfl | rfl | rfl | rfl | rfl | rfl | rfl | rfl | rfl | rfl | rfl | rfl | rfl | rfl <;> simp [mixA, xs]
theorem mix_at (f : Nat → Int) (i j : Nat) (hj : j < 16) : (mixA f i)[j]? = some (.int .i64 (xs f i j)) := by
  rcases (by omega : j = 0 ∨ j = 1 ∨ j = 2 ∨ j = 3 ∨ j = 4 ∨ j = 5 ∨ j = 6 ∨ j = 7 ∨ j = 8 ∨ j = 9 ∨ j = 10 ∨ j = 11 ∨ j = 12 ∨ j = 13 ∨ j = 14 ∨ j = 15) with rfl | rfl | rfl | rfl | rfl | rfl | rfl | rfl | rfl | rfl | rfl | rfl | rfl | rfl | rfl | rfl <;> rfl
theorem mix_0 (f : Nat → Int) : mixA f 0 = #[.int .i64 0, .int .i64 0, .int .i64 0, .int .i64 0, .int .i64 0, .int .i64 0, .int .i64 0, .int .i64 0, .int .i64 0, .int .i64 0, .int .i64 0, .int .i64 0, .int .i64 0, .int .i64 0, .int .i64 0, .int .i64 0] := by simp [mixA, xs]
theorem mix_16 (f : Nat → Int) : mixA f 16 = #[.int .i64 (f 0), .int .i64 (f 1), .int .i64 (f 2), .int .i64 (f 3), .int .i64 (f 4), .int .i64 (f 5), .int .i64 (f 6), .int .i64 (f 7), .int .i64 (f 8), .int .i64 (f 9), .int .i64 (f 10), .int .i64 (f 11), .int .i64 (f 12), .int .i64 (f 13), .int .i64 (f 14), .int .i64 (f 15)] := by simp [mixA, xs]

set_option maxHeartbeats 4000000 in
theorem symbol81_any (f : Nat → Int) (w : World) : Calls Try.prog 81 #[.agg #[.int .i64 (f 0), .int .i64 (f 1), .int .i64 (f 2), .int .i64 (f 3), .int .i64 (f 4), .int .i64 (f 5), .int .i64 (f 6), .int .i64 (f 7), .int .i64 (f 8), .int .i64 (f 9), .int .i64 (f 10), .int .i64 (f 11), .int .i64 (f 12), .int .i64 (f 13), .int .i64 (f 14), .int .i64 (f 15)]] w fun e w' => e = .returned (.agg #[.int .i64 (f 0), .int .i64 (f 1), .int .i64 (f 2), .int .i64 (f 3), .int .i64 (f 4), .int .i64 (f 5), .int .i64 (f 6), .int .i64 (f 7), .int .i64 (f 8), .int .i64 (f 9), .int .i64 (f 10), .int .i64 (f 11), .int .i64 (f 12), .int .i64 (f 13), .int .i64 (f 14), .int .i64 (f 15)]) ∧ Below w.heap.size w w' := by
  go_enter Try.func81, Try.ntmps81
  go_wp2
  refine bodyPost_ret (v := .agg #[.int .i64 (f 0), .int .i64 (f 1), .int .i64 (f 2), .int .i64 (f 3), .int .i64 (f 4), .int .i64 (f 5), .int .i64 (f 6), .int .i64 (f 7), .int .i64 (f 8), .int .i64 (f 9), .int .i64 (f 10), .int .i64 (f 11), .int .i64 (f 12), .int .i64 (f 13), .int .i64 (f 14), .int .i64 (f 15)]) ?rs rfl ⟨rfl, below_al (below_al (Below.refl _ _) _) _⟩
  case rs => simp [results, Try.f81, go_sem]
end Go.Proofs.Ythhkcckikmldcaa
