/-
  Config: contracts of the seven rules of Symbol, of Symbol, and of the document's Symbol; of Bound and the document's Bound. (Written by gen_cfg2.py, a program of this session's own.)
-/
import Derived.Test.YthhkcckikmldcaaCfg1
import Derived.Shelf.Abstract
set_option linter.unusedVariables false
set_option linter.unusedSimpArgs false
namespace Go.Proofs.Ythhkcckikmldcaa
open Go.RowKit

/-- A symbol's sixteen fields in a block. -/
def SymAt (w : World) (B off : Nat) (g : Nat → Int) : Prop := ∀ j, j < 16 → w.cell? ⟨B, off + j, none⟩ = some (.int .i64 (g j))
theorem SymAt.below {w w1 : World} {B off : Nat} {g : Nat → Int} (h : SymAt w B off g) (hb : Below w.heap.size w w1) : SymAt w1 B off g := fun j hj => bcell hb (h j hj)
theorem SymAt.zero {w : World} {B : Nat} {g : Nat → Int} (h : SymAt w B 0 g) (j : Nat) (hj : j < 16) : w.cell? ⟨B, j, none⟩ = some (.int .i64 (g j)) := by
  have := h j hj
  rwa [Nat.zero_add] at this
theorem symAt_new (w : World) (g : Nat → Int) : SymAt (w.alloc (.cells #[.int .i64 (g 0), .int .i64 (g 1), .int .i64 (g 2), .int .i64 (g 3), .int .i64 (g 4), .int .i64 (g 5), .int .i64 (g 6), .int .i64 (g 7), .int .i64 (g 8), .int .i64 (g 9), .int .i64 (g 10), .int .i64 (g 11), .int .i64 (g 12), .int .i64 (g 13), .int .i64 (g 14), .int .i64 (g 15)] 56)) w.heap.size 0 g := by
  intro j hj
  rw [Nat.zero_add]
  refine cell_new_at w _ 56 j _ ?_
  have : j = 0 ∨ j = 1 ∨ j = 2 ∨ j = 3 ∨ j = 4 ∨ j = 5 ∨ j = 6 ∨ j = 7 ∨ j = 8 ∨ j = 9 ∨ j = 10 ∨ j = 11 ∨ j = 12 ∨ j = 13 ∨ j = 14 ∨ j = 15 := by omega
  rcases this with rfl | rfl | rfl | rfl | rfl | rfl | rfl | rfl | rfl | rfl | rfl | rfl | rfl | rfl | rfl | rfl <;> rfl
theorem le_blk {w : World} {B : Nat} {v : Value} {o : Nat} (h : w.cell? ⟨B, o, none⟩ = some v) : B < w.heap.size := World.block_lt_of_cell? w _ h

def sp1 (g : Nat → Int) : Bool := inAll 1 1099511627776 [g 0, g 1]
def sp2 (g : Nat → Int) : Bool := priceF (g 1) (g 0) == 0
def sp3 (g : Nat → Int) : Bool := inAll 0 9999 [g 2, g 3, g 5, g 10, g 11, g 15]
def sp4 (g : Nat → Int) : Bool := inAll 1 1099511627776 [g 4, g 6, g 7, g 8]
def sp5 (g : Nat → Int) : Bool := inAll 0 10 [g 9] && inAll 0 3 [g 12]
def sp6 (g : Nat → Int) : Bool := inAll 1 500 [g 13] && inAll 1 200 [g 14]
def sp7 (g : Nat → Int) : Bool := decide (g 3 ≤ g 2)
def symRules (g : Nat → Int) : List RuleAt := [⟨100, 9, sp1 g⟩, ⟨101, 8, sp2 g⟩, ⟨103, 9, sp3 g⟩, ⟨104, 9, sp4 g⟩, ⟨105, 9, sp5 g⟩, ⟨106, 9, sp6 g⟩, ⟨107, 11, sp7 g⟩]
/-- The fault of a symbol. -/
def symF (g : Nat → Int) : Int := firstF (symRules g)

set_option maxHeartbeats 1000000 in
theorem rule1_any (B : Nat) (g : Nat → Int) (w : World) (h : SymAt w B 0 g) :
    Calls Try.prog 100 #[.pointer (some ⟨B, 0, none⟩)] w fun e w' => e = .returned (.bool (sp1 g)) ∧ Below w.heap.size w w' := by
  have h0 := h.zero 0 (by omega)
  have h1 := h.zero 1 (by omega)
  have HC := Lib.hid (all_any 1 1099511627776 [g 0, g 1] 2 w.heap.size (w.alloc (.cells #[.int .i64 (g 0), .int .i64 (g 1)] 2)) rfl (by omega) (heap_new _ _))
  clear h
  unfold sp1
  go_enter Try.func100, Try.ntmps100
  go_wp2_with fail
  refine (HC.out).mono ?_
  rintro e w' ⟨rfl, hb⟩
  go_wp2_with fail
  go_ret
  exact ⟨rfl, below_all ((Below.refl _ _).alloc (Nat.le_refl _) _) hb⟩

set_option maxHeartbeats 1000000 in
theorem rule2_any (B : Nat) (g : Nat → Int) (w : World) (h : SymAt w B 0 g) (hg : ∀ j, j < 16 → g j ≤ 9223372036854775807) :
    Calls Try.prog 101 #[.pointer (some ⟨B, 0, none⟩)] w fun e w' => e = .returned (.bool (sp2 g)) ∧ Below w.heap.size w w' := by
  have h0 := h.zero 0 (by omega)
  have h1 := h.zero 1 (by omega)
  have HC := Lib.hid (price_any (g 1) (g 0) w (hg 1 (by omega)) (hg 0 (by omega)))
  clear h hg
  unfold sp2
  go_enter Try.func101, Try.ntmps101
  go_wp2_with fail
  refine (HC.out).mono ?_
  rintro e w' ⟨rfl, rfl⟩
  go_wp2_with fail
  go_ret
  exact ⟨rfl, Below.refl _ _⟩

set_option maxHeartbeats 1000000 in
theorem rule3_any (B : Nat) (g : Nat → Int) (w : World) (h : SymAt w B 0 g) :
    Calls Try.prog 103 #[.pointer (some ⟨B, 0, none⟩)] w fun e w' => e = .returned (.bool (sp3 g)) ∧ Below w.heap.size w w' := by
  have h2 := h.zero 2 (by omega)
  have h3 := h.zero 3 (by omega)
  have h5 := h.zero 5 (by omega)
  have h10 := h.zero 10 (by omega)
  have h11 := h.zero 11 (by omega)
  have h15 := h.zero 15 (by omega)
  have HC := Lib.hid (all_any 0 9999 [g 2, g 3, g 5, g 10, g 11, g 15] 6 w.heap.size (w.alloc (.cells #[.int .i64 (g 2), .int .i64 (g 3), .int .i64 (g 5), .int .i64 (g 10), .int .i64 (g 11), .int .i64 (g 15)] 2)) rfl (by omega) (heap_new _ _))
  clear h
  unfold sp3
  go_enter Try.func103, Try.ntmps103
  go_wp2_with fail
  refine (HC.out).mono ?_
  rintro e w' ⟨rfl, hb⟩
  go_wp2_with fail
  go_ret
  exact ⟨rfl, below_all ((Below.refl _ _).alloc (Nat.le_refl _) _) hb⟩

set_option maxHeartbeats 1000000 in
theorem rule4_any (B : Nat) (g : Nat → Int) (w : World) (h : SymAt w B 0 g) :
    Calls Try.prog 104 #[.pointer (some ⟨B, 0, none⟩)] w fun e w' => e = .returned (.bool (sp4 g)) ∧ Below w.heap.size w w' := by
  have h4 := h.zero 4 (by omega)
  have h6 := h.zero 6 (by omega)
  have h7 := h.zero 7 (by omega)
  have h8 := h.zero 8 (by omega)
  have HC := Lib.hid (all_any 1 1099511627776 [g 4, g 6, g 7, g 8] 4 w.heap.size (w.alloc (.cells #[.int .i64 (g 4), .int .i64 (g 6), .int .i64 (g 7), .int .i64 (g 8)] 2)) rfl (by omega) (heap_new _ _))
  clear h
  unfold sp4
  go_enter Try.func104, Try.ntmps104
  go_wp2_with fail
  refine (HC.out).mono ?_
  rintro e w' ⟨rfl, hb⟩
  go_wp2_with fail
  go_ret
  exact ⟨rfl, below_all ((Below.refl _ _).alloc (Nat.le_refl _) _) hb⟩

set_option maxHeartbeats 1000000 in
theorem rule5_any (B : Nat) (g : Nat → Int) (w : World) (h : SymAt w B 0 g) :
    Calls Try.prog 105 #[.pointer (some ⟨B, 0, none⟩)] w fun e w' => e = .returned (.bool (sp5 g)) ∧ Below w.heap.size w w' := by
  have ha := h.zero 9 (by omega)
  have HC := Lib.hid (all_any 0 10 [g 9] 1 w.heap.size (w.alloc (.cells #[.int .i64 (g 9)] 2)) rfl (by omega) (heap_new _ _))
  have HD := Lib.hid (fun (W : World) => all_any 0 3 [g 12] 1 W.heap.size (W.alloc (.cells #[.int .i64 (g 12)] 2)) rfl (by omega) (heap_new _ _))
  have HB := Lib.hid (fun W (hb : Below w.heap.size w W) => bcell hb (h.zero 12 (by omega)))
  clear h
  unfold sp5
  cases hx : inAll 0 10 [g 9]
  · rw [hx] at HC
    clear hx
    go_enter Try.func105, Try.ntmps105
    go_wp2_with fail
    refine (HC.out).mono ?_
    rintro e w' ⟨rfl, hb⟩
    go_wp2_with fail
    go_ret
    exact ⟨rfl, below_all ((Below.refl _ _).alloc (Nat.le_refl _) _) hb⟩
  · rw [hx] at HC
    clear hx
    go_enter Try.func105, Try.ntmps105
    go_wp2_with fail
    refine (HC.out).mono ?_
    rintro e w' ⟨rfl, hb⟩
    have B1 := below_all ((Below.refl _ _).alloc (Nat.le_refl _) _) hb
    have hc := HB.out _ B1
    go_wp2_with fail
    refine (HD.out _).mono ?_
    rintro e w2 ⟨rfl, hb2⟩
    have B2 := below_all B1 (below_all ((Below.refl _ _).alloc (Nat.le_refl _) _) hb2)
    go_wp2_with fail
    go_ret
    exact ⟨rfl, B2⟩

set_option maxHeartbeats 1000000 in
theorem rule6_any (B : Nat) (g : Nat → Int) (w : World) (h : SymAt w B 0 g) :
    Calls Try.prog 106 #[.pointer (some ⟨B, 0, none⟩)] w fun e w' => e = .returned (.bool (sp6 g)) ∧ Below w.heap.size w w' := by
  have ha := h.zero 13 (by omega)
  have HC := Lib.hid (all_any 1 500 [g 13] 1 w.heap.size (w.alloc (.cells #[.int .i64 (g 13)] 2)) rfl (by omega) (heap_new _ _))
  have HD := Lib.hid (fun (W : World) => all_any 1 200 [g 14] 1 W.heap.size (W.alloc (.cells #[.int .i64 (g 14)] 2)) rfl (by omega) (heap_new _ _))
  have HB := Lib.hid (fun W (hb : Below w.heap.size w W) => bcell hb (h.zero 14 (by omega)))
  clear h
  unfold sp6
  cases hx : inAll 1 500 [g 13]
  · rw [hx] at HC
    clear hx
    go_enter Try.func106, Try.ntmps106
    go_wp2_with fail
    refine (HC.out).mono ?_
    rintro e w' ⟨rfl, hb⟩
    go_wp2_with fail
    go_ret
    exact ⟨rfl, below_all ((Below.refl _ _).alloc (Nat.le_refl _) _) hb⟩
  · rw [hx] at HC
    clear hx
    go_enter Try.func106, Try.ntmps106
    go_wp2_with fail
    refine (HC.out).mono ?_
    rintro e w' ⟨rfl, hb⟩
    have B1 := below_all ((Below.refl _ _).alloc (Nat.le_refl _) _) hb
    have hc := HB.out _ B1
    go_wp2_with fail
    refine (HD.out _).mono ?_
    rintro e w2 ⟨rfl, hb2⟩
    have B2 := below_all B1 (below_all ((Below.refl _ _).alloc (Nat.le_refl _) _) hb2)
    go_wp2_with fail
    go_ret
    exact ⟨rfl, B2⟩

set_option maxHeartbeats 1000000 in
theorem rule7_any (B : Nat) (g : Nat → Int) (w : World) (h : SymAt w B 0 g) :
    Calls Try.prog 107 #[.pointer (some ⟨B, 0, none⟩)] w fun e w' => e = .returned (.bool (sp7 g)) ∧ Below w.heap.size w w' := by
  have h2 := h.zero 2 (by omega)
  have h3 := h.zero 3 (by omega)
  clear h
  unfold sp7
  go_enter Try.func107, Try.ntmps107
  go_wp2_with fail
  go_ret
  exact ⟨rfl, Below.refl _ _⟩

theorem enters_rules (g : Nat → Int) : ∀ r, r ∈ symRules g → ∀ args w, (callFunc r.g args).run Try.prog w = .ok (.enter r.g args) w := by
  intro r hr
  simp only [symRules, List.mem_cons, List.not_mem_nil, or_false] at hr
  rcases hr with rfl | rfl | rfl | rfl | rfl | rfl | rfl
  · exact enters_of Try.func100 (by kernel_rfl) rfl
  · exact enters_of Try.func101 (by kernel_rfl) rfl
  · exact enters_of Try.func103 (by kernel_rfl) rfl
  · exact enters_of Try.func104 (by kernel_rfl) rfl
  · exact enters_of Try.func105 (by kernel_rfl) rfl
  · exact enters_of Try.func106 (by kernel_rfl) rfl
  · exact enters_of Try.func107 (by kernel_rfl) rfl
theorem calls_rules (B : Nat) (g : Nat → Int) (w : World) (h : SymAt w B 0 g) (hg : ∀ j, j < 16 → g j ≤ 9223372036854775807) :
    ∀ r, r ∈ symRules g → ∀ W, Below w.heap.size w W → Calls Try.prog r.g #[.pointer (some ⟨B, 0, none⟩)] W fun e w' => e = .returned (.bool r.p) ∧ Below W.heap.size W w' := by
  intro r hr W hb
  simp only [symRules, List.mem_cons, List.not_mem_nil, or_false] at hr
  rcases hr with rfl | rfl | rfl | rfl | rfl | rfl | rfl
  · exact rule1_any B g W (h.below hb)
  · exact rule2_any B g W (h.below hb) hg
  · exact rule3_any B g W (h.below hb)
  · exact rule4_any B g W (h.below hb)
  · exact rule5_any B g W (h.below hb)
  · exact rule6_any B g W (h.below hb)
  · exact rule7_any B g W (h.below hb)

set_option maxHeartbeats 1000000 in
theorem symbol_any (g : Nat → Int) (w : World) (hg : ∀ j, j < 16 → g j ≤ 9223372036854775807) :
    Calls Try.prog 52 #[.agg #[.int .i64 (g 0), .int .i64 (g 1), .int .i64 (g 2), .int .i64 (g 3), .int .i64 (g 4), .int .i64 (g 5), .int .i64 (g 6), .int .i64 (g 7), .int .i64 (g 8), .int .i64 (g 9), .int .i64 (g 10), .int .i64 (g 11), .int .i64 (g 12), .int .i64 (g 13), .int .i64 (g 14), .int .i64 (g 15)]] w fun e w' => e = .returned (.int .i64 (symF g)) ∧ Below w.heap.size w w' := by
  have HC := Lib.hid (first_any (.pointer (some ⟨w.heap.size, 0, none⟩)) (symRules g) 7 (w.heap.size + 1) ((w.alloc (.cells #[.int .i64 (g 0), .int .i64 (g 1), .int .i64 (g 2), .int .i64 (g 3), .int .i64 (g 4), .int .i64 (g 5), .int .i64 (g 6), .int .i64 (g 7), .int .i64 (g 8), .int .i64 (g 9), .int .i64 (g 10), .int .i64 (g 11), .int .i64 (g 12), .int .i64 (g 13), .int .i64 (g 14), .int .i64 (g 15)] 56)).alloc (.cells (ruleCells (.pointer (some ⟨w.heap.size, 0, none⟩)) (symRules g)).toArray 141)) rfl (by omega)
    (by have := heap_new (w.alloc (.cells #[.int .i64 (g 0), .int .i64 (g 1), .int .i64 (g 2), .int .i64 (g 3), .int .i64 (g 4), .int .i64 (g 5), .int .i64 (g 6), .int .i64 (g 7), .int .i64 (g 8), .int .i64 (g 9), .int .i64 (g 10), .int .i64 (g 11), .int .i64 (g 12), .int .i64 (g 13), .int .i64 (g 14), .int .i64 (g 15)] 56)) (.cells (ruleCells (.pointer (some ⟨w.heap.size, 0, none⟩)) (symRules g)).toArray 141); simpa using this)
    (enters_rules g)
    (calls_rules w.heap.size g _ ((symAt_new w g).below ((Below.refl _ _).alloc (Nat.le_refl _) _)) hg))
  simp only [symRules, ruleCells] at HC
  show Calls _ _ _ _ fun e w' => e = .returned (.int .i64 (firstF (symRules g))) ∧ _
  clear hg
  go_enter Try.func52, Try.ntmps52
  go_wp2_with fail
  refine (HC.out).mono ?_
  rintro e w' ⟨rfl, hb⟩
  go_wp2_with fail
  go_ret
  exact ⟨rfl, below_all (((Below.refl _ _).alloc (Nat.le_refl _) _).alloc (by simp) _) hb⟩

/-! ### The document's Symbol -/
set_option maxHeartbeats 400000 in
theorem in_any (x lo hi : Int) (w : World) : Calls Try.prog 98 #[.int .i64 x, .int .i64 lo, .int .i64 hi] w fun e w' => e = .returned (.bool (inB lo hi x)) ∧ w = w' := by
  by_cases h1 : lo ≤ x
  · have e := Lib.hid (show inB lo hi x = decide (x ≤ hi) by unfold inB; rw [decide_eq_true h1]; rfl)
    rw [e.out]
    go_enter Try.func98, Try.ntmps98
    go_wp2
    go_ret
    exact ⟨rfl, rfl⟩
  · have e := Lib.hid (show inB lo hi x = false by unfold inB; rw [decide_eq_false h1]; rfl)
    rw [e.out]
    go_enter Try.func98, Try.ntmps98
    go_wp2
    go_ret
    exact ⟨rfl, rfl⟩
set_option maxHeartbeats 400000 in
theorem ticks_any (x : Int) (w : World) : Calls Try.prog 99 #[.int .i64 x] w fun e w' => e = .returned (.bool (inB 1 1099511627776 x)) ∧ w = w' := by
  go_enter Try.func99, Try.ntmps99
  go_wp2_with (go_at_call 98; refine (in_any _ _ _ _).mono ?_; rintro e w' ⟨rfl, rfl⟩)
  go_ret
  exact ⟨rfl, rfl⟩
set_option maxHeartbeats 400000 in
theorem part_any (x : Int) (w : World) : Calls Try.prog 108 #[.int .i64 x] w fun e w' => e = .returned (.bool (inB 0 9999 x)) ∧ w = w' := by
  go_enter Try.func108, Try.ntmps108
  go_wp2_with (go_at_call 98; refine (in_any _ _ _ _).mono ?_; rintro e w' ⟨rfl, rfl⟩)
  go_ret
  exact ⟨rfl, rfl⟩

theorem symF_1 {g : Nat → Int} (h : inB 1 1099511627776 (g 0) = false ∨ inB 1 1099511627776 (g 1) = false) : symF g = 9 := by
  show (if sp1 g then _ else _) = _
  have : sp1 g = false := by rcases h with h | h <;> simp [sp1, inAll, h]
  rw [this]; rfl
theorem symF_2 {g : Nat → Int} (h : sp1 g = true) (h2 : sp2 g = false) : symF g = 8 := by
  show (if sp1 g then (if sp2 g then _ else _) else _) = _
  rw [h, h2]; rfl
theorem symF_3 {g : Nat → Int} (h : sp1 g = true) (h2 : sp2 g = true) (h3 : (sp3 g && (sp4 g && (sp5 g && sp6 g))) = false) : symF g = 9 := by
  simp only [symF, symRules, firstF, h, h2, if_true]
  cases h3' : sp3 g
  · rfl
  · cases h4' : sp4 g
    · rfl
    · cases h5' : sp5 g
      · rfl
      · cases h6' : sp6 g
        · rfl
        · rw [h3', h4', h5', h6'] at h3; cases h3
theorem symF_7 {g : Nat → Int} (h : sp1 g = true) (h2 : sp2 g = true) (h3 : (sp3 g && (sp4 g && (sp5 g && sp6 g))) = true) : (g 2 < g 3 → symF g = 11) ∧ (g 3 ≤ g 2 → symF g = 0) := by
  simp only [Bool.and_eq_true] at h3
  have e : symF g = if sp7 g then (0 : Int) else 11 := by
    simp only [symF, symRules, firstF, h, h2, h3.1, h3.2.1, h3.2.2.1, h3.2.2.2, if_true]
  rw [e]
  unfold sp7
  exact ⟨fun c => by rw [decide_eq_false (by omega), if_neg (by simp)], fun c => by rw [decide_eq_true c, if_pos rfl]⟩
theorem sp2_mod {g : Nat → Int} (h : sp1 g = true) : sp2 g = (g 1 % g 0 == 0) := by
  simp only [sp1, inAll, List.all_cons, List.all_nil, Bool.and_true, Bool.and_eq_true, inB_iff] at h
  unfold sp2 priceF
  rw [if_neg (by omega), if_neg (by omega)]
  have hd := Int.mul_ediv_add_emod (g 1) (g 0)
  rw [Int.mul_comm] at hd
  by_cases c : g 1 % g 0 = 0
  · rw [if_neg (by omega), c]
  · rw [if_pos (by omega)]
    have : (g 1 % g 0 == 0) = false := by simp [c]
    rw [this]
    decide

set_option maxHeartbeats 4000000 in
theorem refSymbol_any (g : Nat → Int) (w : World) (hg : ∀ j, j < 16 → g j ≤ 9223372036854775807) :
    Calls Try.prog 53 #[.agg #[.int .i64 (g 0), .int .i64 (g 1), .int .i64 (g 2), .int .i64 (g 3), .int .i64 (g 4), .int .i64 (g 5), .int .i64 (g 6), .int .i64 (g 7), .int .i64 (g 8), .int .i64 (g 9), .int .i64 (g 10), .int .i64 (g 11), .int .i64 (g 12), .int .i64 (g 13), .int .i64 (g 14), .int .i64 (g 15)]] w fun e w' => e = .returned (.int .i64 (symF g)) ∧ Below w.heap.size w w' := by
  cases h0 : inB 1 1099511627776 (g 0)
  · rw [symF_1 (Or.inl h0)]
    go_enter Try.func53, Try.ntmps53
    go_wp2_with (first | (go_at_call 98; refine (in_any _ _ _ _).mono ?_; rintro e w' ⟨rfl, rfl⟩))
    go_ret
    exact ⟨rfl, (Below.refl _ _).alloc (Nat.le_refl _) _⟩
  · cases h1 : inB 1 1099511627776 (g 1)
    · rw [symF_1 (Or.inr h1)]
      go_enter Try.func53, Try.ntmps53
      go_wp2_with (first | (go_at_call 98; refine (in_any _ _ _ _).mono ?_; rintro e w' ⟨rfl, rfl⟩))
      go_ret
      exact ⟨rfl, (Below.refl _ _).alloc (Nat.le_refl _) _⟩
    · have hs1 : sp1 g = true := by simp [sp1, inAll, h0, h1]
      have hm := sp2_mod hs1
      obtain ⟨a0, a1⟩ := (inB_iff _ _ _).1 h0
      obtain ⟨b0, b1⟩ := (inB_iff _ _ _).1 h1
      by_cases hmod : g 1 % g 0 = 0
      · have hb : (g 1 % g 0 != 0) = false := by simp [hmod]
        have hs2 : sp2 g = true := by rw [hm]; simp [hmod]
        have HS1 := Lib.hid hs1
        have HS2 := Lib.hid hs2
        clear hm hs1 hs2 hmod
        go_enter Try.func53, Try.ntmps53
        go_wp2_with (first | (go_at_call 98; refine (in_any _ _ _ _).mono ?_; rintro e w' ⟨rfl, rfl⟩) | (go_at_call 99; refine (ticks_any _ _).mono ?_; rintro e w' ⟨rfl, rfl⟩) | (go_at_call 108; refine (part_any _ _).mono ?_; rintro e w' ⟨rfl, rfl⟩))
        all_goals
          go_ret
          refine ⟨?_, (Below.refl _ _).alloc (Nat.le_refl _) _⟩
          simp only [Bool.not_eq_true', Bool.not_eq_false', Bool.not_eq_true] at *
          first
          | (rw [symF_3 HS1.out HS2.out]
             · rfl
             · simp [sp3, sp4, sp5, sp6, inAll, *]; done)
          | (rw [(symF_7 HS1.out HS2.out ?_).1 (by assumption)]
             · rfl
             · simp [sp3, sp4, sp5, sp6, inAll, *]; done)
          | (rw [(symF_7 HS1.out HS2.out ?_).2 (by assumption)]
             · rfl
             · simp [sp3, sp4, sp5, sp6, inAll, *]; done)
      · have hb : (g 1 % g 0 != 0) = true := by simp [hmod]
        have hs2 : sp2 g = false := by rw [hm]; simp [hmod]
        rw [symF_2 hs1 hs2]
        clear hm hs1 hs2 hmod
        go_enter Try.func53, Try.ntmps53
        go_wp2_with (first | (go_at_call 98; refine (in_any _ _ _ _).mono ?_; rintro e w' ⟨rfl, rfl⟩))
        go_ret
        exact ⟨rfl, (Below.refl _ _).alloc (Nat.le_refl _) _⟩

end Go.Proofs.Ythhkcckikmldcaa
