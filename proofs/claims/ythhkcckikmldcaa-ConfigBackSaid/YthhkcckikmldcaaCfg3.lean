/-
  Config: contracts of Bound and the document's Bound, of table, of the rules of Check, of Check. (Written by gen_cfg3.py, a program of this session's own.)
-/
import Derived.Test.YthhkcckikmldcaaCfg2
import Derived.Test.YthhkcckikmldcaaOpen
set_option linter.unusedVariables false
set_option linter.unusedSimpArgs false
namespace Go.Proofs.Ythhkcckikmldcaa
open Go.RowKit

theorem below_al {w W : World} (h : Below w.heap.size w W) (o : Obj) : Below w.heap.size w (W.alloc o) := h.alloc h.size o
theorem heap_new2 (w : World) (o1 o2 : Obj) : ((w.alloc o1).alloc o2).heap[w.heap.size + 1]? = some o2 := by
  have := heap_new (w.alloc o1) o2
  simpa using this
theorem firstF_zero {l : List RuleAt} (hf : ∀ r, r ∈ l → r.f ≠ 0) : firstF l = 0 ↔ ∀ r, r ∈ l → r.p = true := by
  induction l with
  | nil => exact ⟨fun _ r hr => absurd hr List.not_mem_nil, fun _ => rfl⟩
  | cons r l ih =>
    have ih := ih (fun q hq => hf q (List.mem_cons_of_mem _ hq))
    show (if r.p then firstF l else r.f) = 0 ↔ _
    cases hp : r.p
    · rw [if_neg (by simp)]
      exact ⟨fun h => absurd h (hf r List.mem_cons_self), fun h => by have := h r List.mem_cons_self; rw [hp] at this; cases this⟩
    · rw [if_pos rfl, ih]
      exact ⟨fun h q hq => by rcases List.mem_cons.1 hq with rfl | hq; exact hp; exact h q hq, fun h q hq => h q (List.mem_cons_of_mem _ hq)⟩
theorem symF_ok {g : Nat → Int} : symF g = 0 ↔ sp1 g = true ∧ sp2 g = true ∧ sp3 g = true ∧ sp4 g = true ∧ sp5 g = true ∧ sp6 g = true ∧ sp7 g = true := by
  unfold symF
  rw [firstF_zero (by intro r hr; simp only [symRules, List.mem_cons, List.not_mem_nil, or_false] at hr; rcases hr with rfl | rfl | rfl | rfl | rfl | rfl | rfl <;> simp)]
  simp [symRules]
/-- How long a pause may take. -/
def boundF (g : Nat → Int) : Int := if symF g = 0 then g 7 + g 8 * (g 9 + 1) else 0

set_option maxHeartbeats 1000000 in
theorem bound_any (g : Nat → Int) (w : World) (hg : ∀ j, j < 16 → g j ≤ 9223372036854775807) :
    Calls Try.prog 54 #[.agg #[.int .i64 (g 0), .int .i64 (g 1), .int .i64 (g 2), .int .i64 (g 3), .int .i64 (g 4), .int .i64 (g 5), .int .i64 (g 6), .int .i64 (g 7), .int .i64 (g 8), .int .i64 (g 9), .int .i64 (g 10), .int .i64 (g 11), .int .i64 (g 12), .int .i64 (g 13), .int .i64 (g 14), .int .i64 (g 15)]] w fun e w' => e = .returned (.int .i64 (boundF g)) ∧ Below w.heap.size w w' := by
  have HC := Lib.hid (symbol_any g (w.alloc (.cells #[.int .i64 (g 0), .int .i64 (g 1), .int .i64 (g 2), .int .i64 (g 3), .int .i64 (g 4), .int .i64 (g 5), .int .i64 (g 6), .int .i64 (g 7), .int .i64 (g 8), .int .i64 (g 9), .int .i64 (g 10), .int .i64 (g 11), .int .i64 (g 12), .int .i64 (g 13), .int .i64 (g 14), .int .i64 (g 15)] 56)) hg)
  have HS := Lib.hid (fun W (hb : Below (w.alloc (.cells #[.int .i64 (g 0), .int .i64 (g 1), .int .i64 (g 2), .int .i64 (g 3), .int .i64 (g 4), .int .i64 (g 5), .int .i64 (g 6), .int .i64 (g 7), .int .i64 (g 8), .int .i64 (g 9), .int .i64 (g 10), .int .i64 (g 11), .int .i64 (g 12), .int .i64 (g 13), .int .i64 (g 14), .int .i64 (g 15)] 56)).heap.size (w.alloc (.cells #[.int .i64 (g 0), .int .i64 (g 1), .int .i64 (g 2), .int .i64 (g 3), .int .i64 (g 4), .int .i64 (g 5), .int .i64 (g 6), .int .i64 (g 7), .int .i64 (g 8), .int .i64 (g 9), .int .i64 (g 10), .int .i64 (g 11), .int .i64 (g 12), .int .i64 (g 13), .int .i64 (g 14), .int .i64 (g 15)] 56)) W) => (symAt_new w g).below hb)
  by_cases hz : symF g = 0
  · have E := Lib.hid (show boundF g = g 7 + g 8 * (g 9 + 1) from if_pos hz)
    have hok := symF_ok.1 hz
    simp only [sp4, sp5, inAll, List.all_cons, List.all_nil, Bool.and_true, Bool.and_eq_true, inB_iff] at hok
    have h71 := hok.2.2.2.1.2.2.1.1
    have h72 := hok.2.2.2.1.2.2.1.2
    have h81 := hok.2.2.2.1.2.2.2.1
    have h82 := hok.2.2.2.1.2.2.2.2
    have h91 := hok.2.2.2.2.1.1.1
    have h92 := hok.2.2.2.2.1.1.2
    have hmul : g 8 * (g 9 + 1) ≤ 1099511627776 * 11 := Int.le_trans (Int.mul_le_mul_of_nonneg_right h82 (by omega)) (Int.mul_le_mul_of_nonneg_left (by omega) (by omega))
    have hmul0 : 0 ≤ g 8 * (g 9 + 1) := Int.mul_nonneg (by omega) (by omega)
    rw [hz] at HC
    rw [E.out]
    clear hok hz hg E
    go_enter Try.func54, Try.ntmps54
    go_wp2_with fail
    refine (HC.out).mono ?_
    rintro e w1 ⟨rfl, hb⟩
    have h7 := (HS.out _ hb).zero 7 (by omega)
    have h8 := (HS.out _ hb).zero 8 (by omega)
    have h9 := (HS.out _ hb).zero 9 (by omega)
    go_wp2_with fail
    go_ret
    exact ⟨rfl, below_all ((Below.refl _ _).alloc (Nat.le_refl _) _) hb⟩
  · have E := Lib.hid (show boundF g = 0 from if_neg hz)
    have hb0 : (symF g != 0) = true := by simp [hz]
    rw [E.out]
    clear hz hg E HS
    generalize symF g = q at HC hb0
    go_enter Try.func54, Try.ntmps54
    go_wp2_with fail
    refine (HC.out).mono ?_
    rintro e w1 ⟨rfl, hb⟩
    go_wp2_with fail
    go_ret
    exact ⟨rfl, below_all ((Below.refl _ _).alloc (Nat.le_refl _) _) hb⟩

set_option maxHeartbeats 1000000 in
theorem refBound_any (g : Nat → Int) (w : World) (hg : ∀ j, j < 16 → g j ≤ 9223372036854775807) :
    Calls Try.prog 55 #[.agg #[.int .i64 (g 0), .int .i64 (g 1), .int .i64 (g 2), .int .i64 (g 3), .int .i64 (g 4), .int .i64 (g 5), .int .i64 (g 6), .int .i64 (g 7), .int .i64 (g 8), .int .i64 (g 9), .int .i64 (g 10), .int .i64 (g 11), .int .i64 (g 12), .int .i64 (g 13), .int .i64 (g 14), .int .i64 (g 15)]] w fun e w' => e = .returned (.int .i64 (boundF g)) ∧ Below w.heap.size w w' := by
  have HC := Lib.hid (refSymbol_any g (w.alloc (.cells #[.int .i64 (g 0), .int .i64 (g 1), .int .i64 (g 2), .int .i64 (g 3), .int .i64 (g 4), .int .i64 (g 5), .int .i64 (g 6), .int .i64 (g 7), .int .i64 (g 8), .int .i64 (g 9), .int .i64 (g 10), .int .i64 (g 11), .int .i64 (g 12), .int .i64 (g 13), .int .i64 (g 14), .int .i64 (g 15)] 56)) hg)
  have HS := Lib.hid (fun W (hb : Below (w.alloc (.cells #[.int .i64 (g 0), .int .i64 (g 1), .int .i64 (g 2), .int .i64 (g 3), .int .i64 (g 4), .int .i64 (g 5), .int .i64 (g 6), .int .i64 (g 7), .int .i64 (g 8), .int .i64 (g 9), .int .i64 (g 10), .int .i64 (g 11), .int .i64 (g 12), .int .i64 (g 13), .int .i64 (g 14), .int .i64 (g 15)] 56)).heap.size (w.alloc (.cells #[.int .i64 (g 0), .int .i64 (g 1), .int .i64 (g 2), .int .i64 (g 3), .int .i64 (g 4), .int .i64 (g 5), .int .i64 (g 6), .int .i64 (g 7), .int .i64 (g 8), .int .i64 (g 9), .int .i64 (g 10), .int .i64 (g 11), .int .i64 (g 12), .int .i64 (g 13), .int .i64 (g 14), .int .i64 (g 15)] 56)) W) => (symAt_new w g).below hb)
  by_cases hz : symF g = 0
  · have E := Lib.hid (show boundF g = g 7 + g 8 * (g 9 + 1) from if_pos hz)
    have hok := symF_ok.1 hz
    simp only [sp4, sp5, inAll, List.all_cons, List.all_nil, Bool.and_true, Bool.and_eq_true, inB_iff] at hok
    have h71 := hok.2.2.2.1.2.2.1.1
    have h72 := hok.2.2.2.1.2.2.1.2
    have h81 := hok.2.2.2.1.2.2.2.1
    have h82 := hok.2.2.2.1.2.2.2.2
    have h91 := hok.2.2.2.2.1.1.1
    have h92 := hok.2.2.2.2.1.1.2
    have hmul : g 8 * (g 9 + 1) ≤ 1099511627776 * 11 := Int.le_trans (Int.mul_le_mul_of_nonneg_right h82 (by omega)) (Int.mul_le_mul_of_nonneg_left (by omega) (by omega))
    have hmul0 : 0 ≤ g 8 * (g 9 + 1) := Int.mul_nonneg (by omega) (by omega)
    rw [hz] at HC
    rw [E.out]
    clear hok hz hg E
    go_enter Try.func55, Try.ntmps55
    go_wp2_with fail
    refine (HC.out).mono ?_
    rintro e w1 ⟨rfl, hb⟩
    have h7 := (HS.out _ hb).zero 7 (by omega)
    have h8 := (HS.out _ hb).zero 8 (by omega)
    have h9 := (HS.out _ hb).zero 9 (by omega)
    go_wp2_with fail
    go_ret
    exact ⟨rfl, below_all ((Below.refl _ _).alloc (Nat.le_refl _) _) hb⟩
  · have E := Lib.hid (show boundF g = 0 from if_neg hz)
    have hb0 : (symF g != 0) = true := by simp [hz]
    rw [E.out]
    clear hz hg E HS
    generalize symF g = q at HC hb0
    go_enter Try.func55, Try.ntmps55
    go_wp2_with fail
    refine (HC.out).mono ?_
    rintro e w1 ⟨rfl, hb⟩
    go_wp2_with fail
    go_ret
    exact ⟨rfl, below_all ((Below.refl _ _).alloc (Nat.le_refl _) _) hb⟩

/-! ### The table -/
/-- The fault of row k: Range, BadPhase, or none. -/
def rowF (R : Nat → Nat → Int) (k : Nat) : Int :=
  if R k 0 < 0 ∨ 1125899906842624 < R k 0 ∨ (0 < k ∧ R k 0 ≤ R (k - 1) 0) then 9 else if inB 0 2 (R k 1) then 0 else 10
/-- The first row with a fault. -/
def rowI (R : Nat → Nat → Int) (m : Nat) : Nat := first (fun k => rowF R k != 0) m
def tabF (m : Nat) (R : Nat → Nat → Int) : Int := if inB 1 20 m then (if rowI R m < m then rowF R (rowI R m) else 0) else 9
def tabI (m : Nat) (R : Nat → Nat → Int) : Int := if inB 1 20 m then (if rowI R m < m then (rowI R m : Int) else 0) else 0
theorem tab_long {m : Nat} {R : Nat → Nat → Int} (h : inB 1 20 m = false) : tabF m R = 9 ∧ tabI m R = 0 := by simp [tabF, tabI, h]
theorem tab_at {m : Nat} {R : Nat → Nat → Int} {k : Nat} (h : inB 1 20 m = true) (hk : k < m) (h0 : ∀ j, j < k → rowF R j = 0) (h1 : rowF R k ≠ 0) : tabF m R = rowF R k ∧ tabI m R = k := by
  have e : rowI R m = k := first_eq (by omega) (fun j hj => by simp [h0 j hj]) (fun _ => by simpa using h1)
  simp [tabF, tabI, h, e, hk]
theorem tab_ok {m : Nat} {R : Nat → Nat → Int} (h : inB 1 20 m = true) (h0 : ∀ j, j < m → rowF R j = 0) : tabF m R = 0 ∧ tabI m R = 0 := by
  have e : rowI R m = m := first_eq (Nat.le_refl _) (fun j hj => by simp [h0 j hj]) (fun h => absurd h (Nat.lt_irrefl _))
  simp [tabF, tabI, h, e]
def rowL (R : Nat → Nat → Int) (k : Nat) : Int := if k = 0 then -1 else R (k - 1) 0
theorem rowL_nonneg {R : Nat → Nat → Int} {k : Nat} (h0 : ∀ j, j < k → rowF R j = 0) : -1 ≤ rowL R k := by
  unfold rowL
  split
  · omega
  · have := h0 (k - 1) (by omega)
    unfold rowF at this
    split at this
    · cases this
    · omega
theorem rowF_by {R : Nat → Nat → Int} {k : Nat} (h0 : ∀ j, j < k → rowF R j = 0) :
    (R k 0 ≤ rowL R k → rowF R k = 9) ∧ (1125899906842624 < R k 0 → rowF R k = 9) ∧
    (rowL R k < R k 0 → R k 0 ≤ 1125899906842624 → inAll 0 2 [R k 1] = false → rowF R k = 10) ∧ (rowL R k < R k 0 → R k 0 ≤ 1125899906842624 → inAll 0 2 [R k 1] = true → rowF R k = 0) := by
  have hl := rowL_nonneg h0
  have hpos : 0 < k → 0 ≤ rowL R k := fun hk => by
    have := h0 (k - 1) (by omega)
    unfold rowF at this
    unfold rowL
    rw [if_neg (by omega)]
    split at this
    · cases this
    · omega
  have hrl : 0 < k → rowL R k = R (k - 1) 0 := fun hk => by unfold rowL; rw [if_neg (by omega)]
  have hr0 : k = 0 → rowL R k = -1 := fun hk => by unfold rowL; rw [if_pos hk]
  have hin : inAll 0 2 [R k 1] = inB 0 2 (R k 1) := by simp [inAll]
  unfold rowF
  refine ⟨fun h => if_pos ?_, fun h => if_pos (Or.inr (Or.inl h)), fun h1 h2 h3 => ?_, fun h1 h2 h3 => ?_⟩
  · by_cases hk : k = 0
    · have := hr0 hk; left; omega
    · have := hrl (by omega); right; right; omega
  · rw [if_neg, ← hin, h3, if_neg (by simp)]
    by_cases hk : k = 0
    · have := hr0 hk; omega
    · have := hrl (by omega); have := hpos (by omega); omega
  · rw [if_neg, ← hin, h3, if_pos rfl]
    by_cases hk : k = 0
    · have := hr0 hk; omega
    · have := hrl (by omega); have := hpos (by omega); omega

set_option maxHeartbeats 2000000 in
theorem table_any (A : Option Addr) (m d : Nat) (R : Nat → Nat → Int) (w : World) (h : Tab w A m 2 R) (hm : m ≤ 9223372036854775807) :
    Calls Try.prog 88 #[.slice A m d] w fun e w' => e = .returned (.tuple #[.int .i64 (tabF m R), .int .i64 (tabI m R)]) ∧ Below w.heap.size w w' := by
  have HA := Lib.hid (all_any 1 20 [(m : Int)] 1 w.heap.size (w.alloc (.cells #[.int .i64 (m : Int)] 2)) rfl (by omega) (heap_new _ _))
  have hin : inAll 1 20 [(m : Int)] = inB 1 20 m := by simp [inAll]
  rw [hin] at HA
  cases hl : inB 1 20 (m : Int)
  · rw [hl] at HA
    rw [(tab_long hl).1, (tab_long hl).2]
    clear hl hin h
    go_enter Try.func88, Try.ntmps88
    go_wp2_with fail
    refine (HA.out).mono ?_
    rintro e w1 ⟨rfl, hb⟩
    go_wp2_with fail
    go_ret2
    exact ⟨rfl, below_all ((Below.refl _ _).alloc (Nat.le_refl _) _) hb⟩
  · rw [hl] at HA
    obtain ⟨hm1, hm2⟩ := (inB_iff _ _ _).1 hl
    obtain ⟨b, off, rfl, hc⟩ := h (by omega)
    have HT := Lib.hid hc
    have HL := Lib.hid hl
    obtain ⟨f, hf⟩ : ∃ f, f = tabF m R := ⟨_, rfl⟩
    obtain ⟨q, hq⟩ : ∃ q, q = tabI m R := ⟨_, rfl⟩
    rw [← hf, ← hq]
    have HF := Lib.hid hf
    have HQ := Lib.hid hq
    clear hl hin h hc hf hq
    go_enter Try.func88, Try.ntmps88
    go_wp2_with fail
    refine (HA.out).mono ?_
    rintro e w1 ⟨rfl, hb1⟩
    have B1 := Lib.hid (below_all ((Below.refl _ _).alloc (Nat.le_refl _) (.cells #[.int .i64 (m : Int)] 2)) hb1)
    clear hb1
    go_wp2_with fail
    go_loopg [4, 14] m (fun gg s4 s14 wr => ∃ (k : Nat) (la : Int), k ≤ m ∧ m - k ≤ gg ∧ s14 = .int .i64 k ∧ s4 = .int .i64 la ∧ Hid (la = rowL R k) ∧ Hid (Below w.heap.size w wr) ∧ Hid (∀ j, j < k → rowF R j = 0))
    case atStart => exact ⟨0, -1, Nat.zero_le _, by omega, rfl, rfl, (rfl : (-1 : Int) = rowL R 0), B1.out, (fun j hj => absurd hj (Nat.not_lt_zero _) : ∀ j, j < 0 → rowF R j = 0)⟩
    case round =>
      obtain ⟨k, la, hk, hg, rfl, rfl, LA, BW, I⟩ := hrel
      by_cases hlt : k < m
      · have hlt' : (k : Int) < (m : Int) := by omega
        have h0 := bcell BW.out (HT.out k hlt 0 (by omega))
        have h1 := bcell BW.out (HT.out k hlt 1 (by omega))
        have hby := rowF_by I.out
        rw [← LA.out] at hby
        have hnext : rowL R (k + 1) = R k 0 := by unfold rowL; rw [if_neg (by omega)]; rfl
        simp only [Nat.add_zero] at h0
        have hat : ∀ v, rowF R k = v → v ≠ 0 → f = v ∧ q = k := fun v hv hne => by
          have := tab_at HL.out hlt I.out (by rw [hv]; exact hne)
          rw [HF.out, HQ.out, this.1, this.2, hv]
          exact ⟨rfl, rfl⟩
        have hst : rowF R k = 0 → Hid (∀ j, j < k + 1 → rowF R j = 0) := fun hz => (fun j hj => by
          by_cases e : j = k
          · subst e; exact hz
          · exact I.out j (by omega) : ∀ j, j < k + 1 → rowF R j = 0)
        by_cases c1 : R k 0 ≤ la
        · have E := Lib.hid (hat 9 (hby.1 c1) (by omega))
          clear hby hnext hat hst
          generalize R k 0 = x at h0 c1
          generalize R k 1 = y at h1
          go_wp2_with fail
          go_ret2
          refine ⟨?_, BW.out.alloc BW.out.size _⟩
          rw [E.out.1, E.out.2]
          rfl
        · by_cases c2 : 1125899906842624 < R k 0
          · have E := Lib.hid (hat 9 (hby.2.1 c2) (by omega))
            clear hby hnext hat hst
            generalize R k 0 = x at h0 c1 c2
            generalize R k 1 = y at h1
            go_wp2_with fail
            go_ret2
            refine ⟨?_, BW.out.alloc BW.out.size _⟩
            rw [E.out.1, E.out.2]
            rfl
          · have HP := Lib.hid (fun (o : Obj) => all_any 0 2 [R k 1] 1 (wr.heap.size + 1) ((wr.alloc o).alloc (.cells #[.int .i64 (R k 1)] 2)) rfl (by omega) (heap_new2 _ _ _))
            cases hph : inAll 0 2 [R k 1]
            · rw [hph] at HP
              have E := Lib.hid (hat 10 (hby.2.2.1 (by omega) (by omega) hph) (by omega))
              clear hby hnext hat hst hph
              generalize R k 0 = x at h0 c1 c2
              generalize R k 1 = y at h1 HP
              go_wp2_with fail
              refine (HP.out _).mono ?_
              rintro e w2 ⟨rfl, hb2⟩
              go_wp2_with fail
              go_ret2
              refine ⟨?_, below_all (below_al (below_al BW.out _) _) hb2⟩
              rw [E.out.1, E.out.2]
              rfl
            · rw [hph] at HP
              have E := hst (hby.2.2.2 (by omega) (by omega) hph)
              have N := Lib.hid hnext
              clear hby hnext hat hst hph
              generalize R k 0 = x at h0 c1 c2 N
              generalize R k 1 = y at h1 HP
              go_wp2_with fail
              refine (HP.out _).mono ?_
              rintro e w2 ⟨rfl, hb2⟩
              have B2 := Lib.hid (below_all (below_al (below_al BW.out _) _) hb2)
              have h3 := bcell hb2 (bcell ((Below.refl _ _).alloc (Nat.le_refl _) (.cells #[.int .i64 y] 2)) (cell_new_at wr #[.int .i64 x, .int .i64 y] 53 0 _ rfl))
              clear hb2
              go_wp2_with fail
              go_roundg (m - (k + 1))
              case measure => omega
              case rel => exact ⟨k + 1, x, by omega, by omega, by go_num, rfl, N.out.symm, B2, E⟩
      · have : k = m := by omega
        subst this
        have E := Lib.hid (tab_ok HL.out I.out)
        go_wp2_with fail
        go_ret2
        refine ⟨?_, BW.out⟩
        rw [HF.out, HQ.out, E.out.1, E.out.2]
        rfl

end Go.Proofs.Ythhkcckikmldcaa
