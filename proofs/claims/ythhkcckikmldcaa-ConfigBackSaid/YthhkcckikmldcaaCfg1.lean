/-
  Config: contracts of all$1, slices.IndexFunc and ContainsFunc at int64, all; of fix.Down and fix.Price; of first.
-/
import Derived.Test.YthhkcckikmldcaaBase2
import Derived.Laws.EntriesVeiled
set_option linter.unusedVariables false
set_option linter.unusedSimpArgs false
namespace Go.Proofs.Ythhkcckikmldcaa
open Go.RowKit

def outB (lo hi x : Int) : Bool := decide (x < lo) || decide (hi < x)
def inB (lo hi x : Int) : Bool := decide (lo ≤ x) && decide (x ≤ hi)
theorem outB_in (lo hi x : Int) : outB lo hi x = !inB lo hi x := by
  unfold outB inB
  by_cases h1 : x < lo
  · rw [decide_eq_true h1, decide_eq_false (by omega : ¬ lo ≤ x)]; rfl
  · rw [decide_eq_false h1, decide_eq_true (by omega : lo ≤ x)]
    by_cases h2 : hi < x
    · rw [decide_eq_true h2, decide_eq_false (by omega : ¬ x ≤ hi)]; rfl
    · rw [decide_eq_false h2, decide_eq_true (by omega : x ≤ hi)]; rfl
theorem inB_iff (lo hi x : Int) : inB lo hi x = true ↔ lo ≤ x ∧ x ≤ hi := by
  unfold inB; simp

set_option maxHeartbeats 400000 in
theorem all1_any (Bl Bh : Nat) (lo hi x : Int) (w : World) (hl : w.cell? ⟨Bl, 0, none⟩ = some (.int .i64 lo)) (hh : w.cell? ⟨Bh, 0, none⟩ = some (.int .i64 hi)) :
    Calls Try.prog 125 #[.int .i64 x, .pointer (some ⟨Bl, 0, none⟩), .pointer (some ⟨Bh, 0, none⟩)] w fun e w' => e = .returned (.bool (outB lo hi x)) ∧ w = w' := by
  by_cases h1 : x < lo
  · have e := Lib.hid (show outB lo hi x = true by unfold outB; rw [decide_eq_true h1]; rfl)
    rw [e.out]
    go_enter Try.func125, Try.ntmps125
    go_wp2
    go_ret
    exact ⟨rfl, rfl⟩
  · have e := Lib.hid (show outB lo hi x = decide (hi < x) by unfold outB; rw [decide_eq_false h1]; rfl)
    rw [e.out]
    go_enter Try.func125, Try.ntmps125
    go_wp2
    go_ret
    exact ⟨rfl, rfl⟩

set_option maxHeartbeats 1000000 in
theorem indexNum_any (Bl Bh b off m c : Nat) (lo hi : Int) (G : Nat → Int) (w : World) (hm : m ≤ 4611686018427387903)
    (hl : w.cell? ⟨Bl, 0, none⟩ = some (.int .i64 lo)) (hh : w.cell? ⟨Bh, 0, none⟩ = some (.int .i64 hi))
    (hG : ∀ i, i < m → w.cell? ⟨b, off + i, none⟩ = some (.int .i64 (G i))) :
    Calls Try.prog 130 #[.slice (some ⟨b, off, none⟩) m c, .func (.func 125) #[] #[.pointer (some ⟨Bl, 0, none⟩), .pointer (some ⟨Bh, 0, none⟩)]] w fun e w' => e = .returned (.int .i64 (idx (fun j => outB lo hi (G j)) m)) ∧ w = w' := by
  have HP := Lib.hid (fun x => all1_any Bl Bh lo hi x w hl hh)
  have HG := Lib.hid hG
  clear hl hh hG
  go_enter Try.func130, Try.ntmps130
  go_wp2
  go_loopg [5, 8] m (fun gg _ s8 wr => ∃ kk : Nat, kk ≤ m ∧ m - kk ≤ gg ∧ s8 = .int .i64 kk ∧ w = wr ∧ Hid (∀ j, j < kk → outB lo hi (G j) = false))
  case atStart => exact ⟨0, Nat.zero_le _, by omega, rfl, rfl, (fun j hj => absurd hj (Nat.not_lt_zero _) : ∀ j, j < 0 → outB lo hi (G j) = false)⟩
  case round =>
    obtain ⟨kk, hkk, hg, rfl, rfl, I⟩ := hrel
    by_cases hlt : kk < m
    · have hlt' : (kk : Int) < (m : Int) := by omega
      have h1 := HG.out kk hlt
      have HC := Lib.hid (HP.out (G kk))
      cases hq : outB lo hi (G kk)
      · rw [hq] at HC
        have HQ := Lib.hid hq
        clear hq
        generalize G kk = x at h1 HC
        go_wp2_with (go_at_call 125; refine (HC.out).mono ?_; rintro e w' ⟨rfl, rfl⟩)
        go_roundg (m - (kk + 1))
        case measure => omega
        case rel =>
          refine ⟨kk + 1, by omega, by omega, by go_num, rfl, (show Hid _ from fun j hj => ?_)⟩
          by_cases e : j = kk
          · subst e; exact HQ.out
          · exact I.out j (by omega)
      · have E := Lib.hid (show first (fun j => outB lo hi (G j)) m = kk from first_eq hkk (fun j hj => I.out j hj) (fun _ => hq))
        rw [hq] at HC
        clear hq
        generalize G kk = x at h1 HC
        go_wp2_with (go_at_call 125; refine (HC.out).mono ?_; rintro e w' ⟨rfl, rfl⟩)
        go_ret
        refine ⟨?_, rfl⟩
        unfold idx
        rw [E.out, if_pos hlt]
        rfl
    · have : kk = m := by omega
      subst this
      have E := Lib.hid (show first (fun j => outB lo hi (G j)) kk = kk from first_eq (Nat.le_refl _) (fun j hj => I.out j hj) (fun h => absurd h (Nat.lt_irrefl _)))
      go_wp2
      go_ret
      refine ⟨?_, rfl⟩
      unfold idx
      rw [E.out, if_neg (Nat.lt_irrefl _)]
      rfl

/-- Are all from lo to hi? -/
def inAll (lo hi : Int) (xs : List Int) : Bool := xs.all (inB lo hi)
theorem inAll_idx (lo hi : Int) (xs : List Int) : decide (0 ≤ idx (fun j => outB lo hi (xs.getD j 0)) xs.length) = !inAll lo hi xs := by
  have hle := first_le (fun j => outB lo hi (xs.getD j 0)) xs.length
  cases ha : inAll lo hi xs
  · have hlt : first (fun j => outB lo hi (xs.getD j 0)) xs.length < xs.length := by
      by_cases e : first (fun j => outB lo hi (xs.getD j 0)) xs.length = xs.length
      · exfalso
        have hn := first_none (fun j => outB lo hi (xs.getD j 0)) xs.length
        rw [e] at hn
        have : inAll lo hi xs = true := by
          unfold inAll
          rw [List.all_eq_true]
          intro x hx
          obtain ⟨i, hi, rfl⟩ := List.getElem_of_mem hx
          have := hn i hi
          rw [outB_in] at this
          simpa [List.getD_eq_getElem?_getD, List.getElem?_eq_getElem hi] using this
        rw [ha] at this
        cases this
      · omega
    unfold idx
    rw [if_pos hlt]
    simp
  · have he : first (fun j => outB lo hi (xs.getD j 0)) xs.length = xs.length := first_eq (Nat.le_refl _) (fun j hj => by
      unfold inAll at ha
      rw [List.all_eq_true] at ha
      have := ha (xs[j]) (List.getElem_mem hj)
      rw [outB_in]
      simp [List.getD_eq_getElem?_getD, List.getElem?_eq_getElem hj, this]) (fun h => absurd h (Nat.lt_irrefl _))
    unfold idx
    rw [he, if_neg (Nat.lt_irrefl _)]
    rfl

theorem numsAt {w : World} {B : Nat} {xs : List Int} {t : TypeId} (h : w.heap[B]? = some (.cells (xs.map (Value.int .i64)).toArray t (0, 0))) : ∀ i, i < xs.length → w.cell? ⟨B, i, none⟩ = some (.int .i64 (xs.getD i 0)) := by
  intro i hi
  unfold World.cell?
  simp [h, hi, List.getD_eq_getElem?_getD]

set_option maxHeartbeats 1000000 in
theorem all_any (lo hi : Int) (xs : List Int) (n B : Nat) (w : World) (hn : xs.length = n) (hm : n ≤ 4611686018427387903) (hB : w.heap[B]? = some (.cells (xs.map (Value.int .i64)).toArray 2 (0, 0))) :
    Calls Try.prog 87 #[.int .i64 lo, .int .i64 hi, .slice (some ⟨B, 0, none⟩) n n] w fun e w' => e = .returned (.bool (inAll lo hi xs)) ∧ Below w.heap.size w w' := by
  subst hn
  have hc := numsAt hB
  have HI := Lib.hid (indexNum_any w.heap.size (w.heap.size + 1) B 0 xs.length xs.length lo hi (fun j => xs.getD j 0) ((w.alloc (.cells #[.int .i64 lo] 2)).alloc (.cells #[.int .i64 hi] 2)) hm (bcell ((Below.refl _ _).alloc (Nat.le_refl _) _) (cell_new w _ _)) (by simp) (fun i hi => by
    rw [Nat.zero_add]
    exact bcell (((Below.refl _ _).alloc (Nat.le_refl _) _).alloc (by simp) _) (hc i hi)))
  have E := Lib.hid (inAll_idx lo hi xs)
  clear hc hB
  generalize inAll lo hi xs = R at E
  generalize idx (fun j => outB lo hi (xs.getD j 0)) xs.length = q at HI E
  have E' := Lib.hid (show (!decide (0 ≤ q)) = R by rw [E.out]; simp)
  clear E
  go_enter Try.func87, Try.ntmps87
  go_wp2_with (first | (go_at_call 130; refine (HI.out).mono ?_; rintro e w' ⟨rfl, rfl⟩) | go_in)
  go_ret
  exact ⟨ret_bool E'.out, ((Below.refl _ _).alloc (Nat.le_refl _) _).alloc (by simp) _⟩

/-! ### fix.Down, fix.Price -/
def downF (p g : Int) : Int := if p < 0 ∨ g < 1 then 0 else p / g * g
def priceF (p g : Int) : Int := if g < 1 then 1 else if p < 1 ∨ 1099511627776 < p then 9 else if p / g * g ≠ p then 8 else 0

set_option maxHeartbeats 1000000 in
theorem price_any (p g : Int) (w : World) (hp : p ≤ 9223372036854775807) (hg : g ≤ 9223372036854775807) :
    Calls Try.prog 102 #[.int .i64 p, .int .i64 g] w fun e w' => e = .returned (.int .i64 (priceF p g)) ∧ w = w' := by
  by_cases h1 : g < 1
  · have E := Lib.hid (show priceF p g = 1 by unfold priceF; rw [if_pos h1])
    rw [E.out]
    go_enter Try.func102, Try.ntmps102
    go_wp2_with fail
    go_ret
    exact ⟨rfl, rfl⟩
  · by_cases h2 : p < 1
    · have E := Lib.hid (show priceF p g = 9 by unfold priceF; rw [if_neg h1, if_pos (Or.inl h2)])
      rw [E.out]
      go_enter Try.func102, Try.ntmps102
      go_wp2_with fail
      go_ret
      exact ⟨rfl, rfl⟩
    · by_cases h3 : 1099511627776 < p
      · have E := Lib.hid (show priceF p g = 9 by unfold priceF; rw [if_neg h1, if_pos (Or.inr h3)])
        rw [E.out]
        go_enter Try.func102, Try.ntmps102
        go_wp2_with fail
        go_ret
        exact ⟨rfl, rfl⟩
      · have hq0 : 0 ≤ p / g := Int.ediv_nonneg (by omega) (by omega)
        have hq1 : p / g * g ≤ p := Int.ediv_mul_le p (by omega)
        have hq2 : p / g ≤ p := Int.ediv_le_self _ (by omega)
        have hq3 : 0 ≤ p / g * g := Int.mul_nonneg hq0 (by omega)
        by_cases h4 : p / g * g = p
        · have E := Lib.hid (show priceF p g = 0 by unfold priceF; rw [if_neg h1, if_neg (by omega), if_neg (by simp [h4])])
          have hb : (p / g * g != p) = false := by simp [h4]
          rw [E.out]
          clear h4
          go_enter Try.func102, Try.ntmps102
          go_wp2
          go_ret
          exact ⟨rfl, rfl⟩
        · have E := Lib.hid (show priceF p g = 8 by unfold priceF; rw [if_neg h1, if_neg (by omega), if_pos h4])
          have hb : (p / g * g != p) = true := by simp [h4]
          rw [E.out]
          clear h4
          go_enter Try.func102, Try.ntmps102
          go_wp2
          go_ret
          exact ⟨rfl, rfl⟩

/-! ### first: the fault of the first rule that does not hold -/
/-- A rule as it lies in memory: function g of the program over one captured variable, and a fault. -/
structure RuleAt where
  g : Nat
  f : Int
  p : Bool
def firstF (l : List RuleAt) : Int := match l with
  | [] => 0
  | r :: l => if r.p then firstF l else r.f
theorem firstF_skip (l : List RuleAt) (k : Nat) (h : ∀ j (hj : j < l.length), j < k → l[j].p = true) : firstF (l.drop k) = firstF l := by
  induction k generalizing l with
  | zero => rfl
  | succ k ih =>
    match l with
    | [] => rfl
    | r :: l =>
      have h0 := h 0 (by simp) (by omega)
      simp only [List.getElem_cons_zero] at h0
      show firstF (l.drop k) = firstF (r :: l)
      rw [ih l (fun j hj hjk => by
        have := h (j + 1) (by simpa using hj) (by omega)
        simpa using this)]
      show firstF l = if r.p then firstF l else r.f
      rw [h0, if_pos rfl]
def ruleCells (V : Value) : List RuleAt → List Value
  | [] => []
  | r :: l => .func (.func r.g) #[] #[V] :: .int .i64 r.f :: ruleCells V l
theorem ruleCells_get (V : Value) (l : List RuleAt) (k : Nat) (hk : k < l.length) :
    (ruleCells V l)[k * 2]? = some (.func (.func l[k].g) #[] #[V]) ∧ (ruleCells V l)[k * 2 + 1]? = some (.int .i64 l[k].f) := by
  induction l generalizing k with
  | nil => exact absurd hk (Nat.not_lt_zero _)
  | cons r l ih =>
    cases k with
    | zero => exact ⟨rfl, rfl⟩
    | succ k =>
      have := ih k (by simpa using hk)
      simp only [ruleCells, List.getElem_cons_succ]
      rw [show (k + 1) * 2 = k * 2 + 1 + 1 by omega]
      simpa using this

set_option maxHeartbeats 1000000 in
theorem first_any (V : Value) (l : List RuleAt) (n B : Nat) (w : World) (hn : l.length = n) (hm : n ≤ 1000)
    (hB : w.heap[B]? = some (.cells (ruleCells V l).toArray 141 (0, 0)))
    (he : ∀ r, r ∈ l → ∀ args w, (callFunc r.g args).run Try.prog w = .ok (.enter r.g args) w)
    (hc : ∀ r, r ∈ l → ∀ W, Below w.heap.size w W → Calls Try.prog r.g #[V] W fun e w' => e = .returned (.bool r.p) ∧ Below W.heap.size W w') :
    Calls Try.prog 90 #[.slice (some ⟨B, 0, none⟩) n n] w fun e w' => e = .returned (.int .i64 (firstF l)) ∧ Below w.heap.size w w' := by
  subst hn
  have HB := Lib.hid hB
  have HE := Lib.hid he
  have HC := Lib.hid hc
  clear hB he hc
  obtain ⟨R, hR⟩ : ∃ R, R = firstF l := ⟨_, rfl⟩
  rw [← hR]
  have HR := Lib.hid hR
  clear hR
  go_enter Try.func90, Try.ntmps90
  go_wp2
  go_loopg [4, 7] l.length (fun gg s4 s7 wr => ∃ kk : Nat, kk ≤ l.length ∧ l.length - kk ≤ gg ∧ s7 = .int .i64 kk ∧ Hid (Below w.heap.size w wr) ∧ Hid (∀ j (hj : j < l.length), j < kk → l[j].p = true))
  case atStart => exact ⟨0, Nat.zero_le _, by omega, rfl, Below.refl _ w, (fun j hj hj0 => absurd hj0 (Nat.not_lt_zero _) : ∀ j (hj : j < l.length), j < 0 → l[j].p = true)⟩
  case round =>
    obtain ⟨kk, hkk, hg, rfl, BW, I⟩ := hrel
    by_cases hlt : kk < l.length
    · have hlt' : (kk : Int) < (l.length : Int) := by omega
      have hg1 := ruleCells_get V l kk hlt
      have h1 : wr.cell? ⟨B, kk * 2, none⟩ = some (.func (.func l[kk].g) #[] #[V]) := bcell BW.out (cell_heap HB.out (by simpa using hg1.1))
      have h2 : wr.cell? ⟨B, kk * 2 + 1, none⟩ = some (.int .i64 l[kk].f) := bcell BW.out (cell_heap HB.out (by simpa using hg1.2))
      have hee := HE.out l[kk] (List.getElem_mem hlt)
      have hcc := Lib.hid (HC.out l[kk] (List.getElem_mem hlt))
      have hp : (l[kk].p = true → Hid (∀ j (hj : j < l.length), j < kk + 1 → l[j].p = true)) ∧ (l[kk].p = false → Hid (R = l[kk].f)) := by
        refine ⟨fun hp => (fun j hj hjk => ?_ : ∀ j (hj : j < l.length), j < kk + 1 → l[j].p = true), fun hp => ?_⟩
        · by_cases e : j = kk
          · subst e; exact hp
          · exact I.out j hj (by omega)
        · show R = l[kk].f
          rw [HR.out, ← firstF_skip l kk I.out, List.drop_eq_getElem_cons hlt]
          show (if l[kk].p then _ else _) = _
          rw [hp, if_neg (by simp)]
      have HP := Lib.hid hp
      clear hp hg1
      have hcc' := hcc.out
      clear hcc
      generalize l[kk].g = g at h1 hee hcc'
      generalize l[kk].f = f at h2 HP
      generalize l[kk].p = p at hcc' HP
      cases p
      · have E := HP.out.2 rfl
        have hcc := Lib.hid hcc'
        clear hcc' HP I
        go_wp2_with fail
        refine (hcc.out _ (below_all BW.out ((Below.refl _ _).alloc (Nat.le_refl _) _))).mono ?_
        rintro e w' ⟨rfl, hb'⟩
        have h3 := bcell hb' (cell_new_at wr #[.func (.func g) #[] #[V], .int .i64 f] 141 1 _ rfl)
        go_wp2_with fail
        go_ret
        exact ⟨by rw [show R = f from E.out]; rfl, below_all (below_all BW.out ((Below.refl _ _).alloc (Nat.le_refl _) _)) hb'⟩
      · have E := HP.out.1 rfl
        have hcc := Lib.hid hcc'
        clear hcc' HP I
        go_wp2_with fail
        refine (hcc.out _ (below_all BW.out ((Below.refl _ _).alloc (Nat.le_refl _) _))).mono ?_
        rintro e w' ⟨rfl, hb'⟩
        go_wp2_with fail
        go_roundg (l.length - (kk + 1))
        case measure => omega
        case rel => exact ⟨kk + 1, by omega, by omega, by go_num, below_all (below_all BW.out ((Below.refl _ _).alloc (Nat.le_refl _) _)) hb', E⟩
    · have : kk = l.length := by omega
      subst this
      have E := Lib.hid (show R = 0 by
        rw [HR.out, ← firstF_skip l l.length (fun j hj _ => I.out j hj hj), List.drop_length]; rfl)
      go_wp2
      go_ret
      exact ⟨by rw [E.out]; rfl, BW.out⟩
end Go.Proofs.Ythhkcckikmldcaa
