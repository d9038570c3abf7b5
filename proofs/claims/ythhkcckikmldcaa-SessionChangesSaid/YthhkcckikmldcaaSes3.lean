/-
  Session: contracts of turn$1, slices.IndexFunc at rows, turn, Rest, Lasts and of the document's answers Rest, Lasts.
-/
import Derived.Test.YthhkcckikmldcaaSes2
set_option linter.unusedVariables false
set_option linter.unusedSimpArgs false
namespace Go.Proofs.Ythhkcckikmldcaa
open Go.RowKit

set_option maxHeartbeats 400000 in
theorem turn1_any (Bp : Nat) (x y ph : Int) (w : World) (hp : w.cell? ⟨Bp, 0, none⟩ = some (.int .i64 ph)) :
    Calls Try.prog 120 #[.agg #[.int .i64 x, .int .i64 y], .pointer (some ⟨Bp, 0, none⟩)] w fun e w' => e = .returned (.bool (y != ph)) ∧ Below w.heap.size w w' := by
  have hlt := World.block_lt_of_cell? w _ hp
  have hp' : (w.alloc (.cells #[.int .i64 x, .int .i64 y] 53)).cell? ⟨Bp, 0, none⟩ = some (.int .i64 ph) := bcell (Below.alloc (Below.refl _ _) (Nat.le_refl _) _) hp
  go_enter Try.func120, Try.ntmps120
  go_wp2
  try (go_quiet (fail))
  go_wp2
  go_ret
  exact ⟨rfl, by first | exact (Below.refl _ _).alloc (Nat.le_refl _) _ | exact below_drewN ((Below.refl _ _).alloc (Nat.le_refl _) _) _⟩

set_option maxHeartbeats 1000000 in
theorem indexRow_any (Bp b off m c : Nat) (ph : Int) (T F : Nat → Int) (w : World) (hm : m ≤ 4611686018427387903) (hp : w.cell? ⟨Bp, 0, none⟩ = some (.int .i64 ph))
    (hT : ∀ i, i < m → w.cell? ⟨b, off + i * 2, none⟩ = some (.int .i64 (T i))) (hF : ∀ i, i < m → w.cell? ⟨b, off + i * 2 + 1, none⟩ = some (.int .i64 (F i))) :
    Calls Try.prog 119 #[.slice (some ⟨b, off, none⟩) m c, .func (.func 120) #[] #[.pointer (some ⟨Bp, 0, none⟩)]] w fun e w' => e = .returned (.int .i64 (idx (fun j => F j != ph) m)) ∧ Below w.heap.size w w' := by
  have HP := Lib.hid hp
  have HT := Lib.hid hT
  have HF := Lib.hid hF
  clear hp hT hF
  go_enter Try.func119, Try.ntmps119
  go_wp2
  go_loopg [5, 8] m (fun gg _ s8 wr => ∃ kk : Nat, kk ≤ m ∧ m - kk ≤ gg ∧ s8 = .int .i64 kk ∧ Hid (Below w.heap.size w wr) ∧ Hid (∀ j, j < kk → F j = ph))
  case atStart => exact ⟨0, Nat.zero_le _, by omega, rfl, Below.refl _ w, (fun j hj => absurd hj (Nat.not_lt_zero _) : ∀ j, j < 0 → F j = ph)⟩
  case round =>
    obtain ⟨kk, hkk, hg, rfl, BW, I⟩ := hrel
    by_cases hlt : kk < m
    · have hlt' : (kk : Int) < (m : Int) := by omega
      have h1 := bcell BW.out (HT.out kk hlt)
      have h2 := bcell BW.out (HF.out kk hlt)
      have HC := Lib.hid (turn1_any Bp (T kk) (F kk) ph wr (bcell BW.out HP.out))
      by_cases hq : F kk = ph
      · have hb : (F kk != ph) = false := by simp [hq]
        rw [hb] at HC
        have HQ := Lib.hid hq
        clear hq hb
        go_wp2_with (go_at_call 120; refine (HC.out).mono ?_; rintro e w' ⟨rfl, hb'⟩)
        go_roundg (m - (kk + 1))
        case measure => omega
        case rel =>
          refine ⟨kk + 1, by omega, by omega, by go_num, below_all BW.out hb', (show Hid _ from fun j hj => ?_)⟩
          by_cases e : j = kk
          · subst e; exact HQ.out
          · exact I.out j (by omega)
      · have hb : (F kk != ph) = true := by simp [hq]
        rw [hb] at HC
        have E := Lib.hid (show first (fun j => F j != ph) m = kk from first_eq hkk (fun j hj => by simpa using I.out j hj) (fun _ => hb))
        clear hq hb
        go_wp2_with (go_at_call 120; refine (HC.out).mono ?_; rintro e w' ⟨rfl, hb'⟩)
        go_ret
        refine ⟨?_, below_all BW.out hb'⟩
        unfold idx
        rw [E.out, if_pos hlt]
        rfl
    · have : kk = m := by omega
      subst this
      have E := Lib.hid (show first (fun j => F j != ph) kk = kk from first_eq (Nat.le_refl _) (fun j hj => by simpa using I.out j hj) (fun h => absurd h (Nat.lt_irrefl _)))
      go_wp2
      go_ret
      refine ⟨?_, BW.out⟩
      unfold idx
      rw [E.out, if_neg (Nat.lt_irrefl _)]
      rfl

set_option maxHeartbeats 400000 in
theorem indexRow_none (A : Option Addr) (c : Nat) (f : Value) (w : World) :
    Calls Try.prog 119 #[.slice A 0 c, f] w fun e w' => e = .returned (.int .i64 (-1)) ∧ Below w.heap.size w w' := by
  go_enter Try.func119, Try.ntmps119
  go_wp2
  go_loopg [5, 8] 0 (fun gg _ s8 wr => s8 = .int .i64 0 ∧ wr = w)
  case atStart => exact ⟨rfl, rfl⟩
  case round =>
    obtain ⟨rfl, rfl⟩ := hrel
    go_wp2
    go_ret
    exact ⟨rfl, Below.refl _ _⟩

/-- The row at which the phase turns next: n if there is none. -/
def tn (n : Nat) (T F : Nat → Int) (tick : Int) : Nat := bh n T tick + first (fun j => F (bh n T tick + j) != phS n T F tick) (n - bh n T tick)
theorem tn_le (n : Nat) (T F : Nat → Int) (tick : Int) : tn n T F tick ≤ n := by
  have := first_le (fun j => F (bh n T tick + j) != phS n T F tick) (n - bh n T tick)
  have := bh_le n T tick
  unfold tn; omega
/-- A pointer to it; nil if there is none. -/
def TurnAt (A : Option Addr) (n : Nat) (T F : Nat → Int) (tick : Int) (v : Value) : Prop :=
  (tn n T F tick = n ∧ v = .pointer none) ∨ (tn n T F tick < n ∧ ∃ b off, A = some ⟨b, off, none⟩ ∧ v = .pointer (some ⟨b, off + tn n T F tick * 2, none⟩))
def TurnPost (A : Option Addr) (n : Nat) (T F : Nat → Int) (tick : Int) (w : World) (e : Ending) (w' : World) : Prop := ∃ v, TurnAt A n T F tick v ∧ e = .returned v ∧ Below w.heap.size w w'

set_option maxHeartbeats 2000000 in
theorem turn_any (A : Option Addr) (n c : Nat) (T F : Nat → Int) (tick : Int) (w : World) (hnc : n ≤ c) (h : Rows2 w A n T F) (hr : Rise n T) :
    Calls Try.prog 69 #[.slice A n c, .int .i64 tick] w (TurnPost A n T F tick w) := by
  have HR := Lib.hid hr
  have HH := Lib.hid h
  have HA := Lib.hid (at_any A n c T F tick w h hr)
  have hle := bh_le n T tick
  have hn := h.1
  obtain ⟨m, hm⟩ : ∃ m, m = bh n T tick := ⟨_, rfl⟩
  have HM := Lib.hid hm
  rw [← hm] at hle
  have HB : ∀ W, Below w.heap.size w W → Calls Try.prog 68 #[.slice A n c, .int .i64 tick] W fun e w' => e = .returned (.int .i64 m) ∧ Below W.heap.size W w' := fun W hb => by
    rw [hm]; exact behind_any A n c T F tick W (h.below hb) hr
  have HB' := Lib.hid HB
  obtain ⟨ph, hph⟩ : ∃ ph, ph = phS n T F tick := ⟨_, rfl⟩
  have HPH := Lib.hid hph
  rw [← hph] at HA
  clear HB hm hph hr h
  by_cases hmn : m = n
  · subst hmn
    have E := Lib.hid (show tn m T F tick = m by have := tn_le m T F tick; have := HM.out; unfold tn at *; omega)
    go_enter Try.func69, Try.ntmps69
    go_wp2_with (first | (go_at_call 21; refine (HA.out).mono ?_; rintro e w1 ⟨rfl, hb1⟩; have B1 := Lib.hid hb1; have hs1 := hb1.size; clear hb1) | (go_at_call 68; refine (HB'.out _ (B1.out.alloc B1.out.size _)).mono ?_; rintro e w2 ⟨rfl, hb2⟩; have B2 := Lib.hid hb2; clear hb2) | (go_at_call 119; refine (indexRow_none _ _ _ _).mono ?_; rintro e w3 ⟨rfl, hb3⟩; have B3 := Lib.hid hb3; clear hb3))
    all_goals
      go_ret
      exact ⟨_, .inl ⟨E.out, rfl⟩, rfl, below_all (below_all (B1.out.alloc B1.out.size _) B2.out) B3.out⟩
  · have hlt : m < n := by omega
    have hmc : ¬ m = c := by omega
    obtain ⟨b, off, rfl, hT, hF⟩ := HH.out.2 (by omega)
    have hTF := Lib.hid (And.intro hT hF)
    have hbl : b < w.heap.size := World.block_lt_of_cell? w _ (hT 0 (by omega))
    have HI : ∀ (W : World) (Bp : Nat), Below w.heap.size w W → W.cell? ⟨Bp, 0, none⟩ = some (.int .i64 ph) →
        Calls Try.prog 119 #[.slice (some ⟨b, off + m * 2, none⟩) (n - m) (c - m), .func (.func 120) #[] #[.pointer (some ⟨Bp, 0, none⟩)]] W fun e w' => e = .returned (.int .i64 (idx (fun j => F (m + j) != ph) (n - m))) ∧ Below W.heap.size W w' := fun W Bp hb hp =>
      indexRow_any Bp b (off + m * 2) (n - m) (c - m) ph (fun j => T (m + j)) (fun j => F (m + j)) W (by omega) hp
        (fun i hi => by rw [show off + m * 2 + i * 2 = off + (m + i) * 2 by omega]; exact bcell hb (hTF.out.1 (m + i) (by omega)))
        (fun i hi => by rw [show off + m * 2 + i * 2 + 1 = off + (m + i) * 2 + 1 by omega]; exact bcell hb (hTF.out.2 (m + i) (by omega)))
    have HI' := Lib.hid HI
    clear HI hT hF
    obtain ⟨k, hk⟩ : ∃ k, k = first (fun j => F (m + j) != ph) (n - m) := ⟨_, rfl⟩
    have hkle := first_le (fun j => F (m + j) != ph) (n - m)
    rw [← hk] at hkle
    have E := Lib.hid (show tn n T F tick = m + k by have := HM.out; have := HPH.out; unfold tn; rw [← HM.out, ← HPH.out, ← hk])
    by_cases hkn : k < n - m
    · have hidx : idx (fun j => F (m + j) != ph) (n - m) = k := by unfold idx; rw [← hk, if_pos hkn]
      rw [hidx] at HI'
      clear hidx hk
      have h0 : ¬ (k : Int) < 0 := by omega
      have hklt : (k : Int) < ((n - m : Nat) : Int) := by omega
      go_enter Try.func69, Try.ntmps69
      go_wp2_with (first | (go_at_call 21; refine (HA.out).mono ?_; rintro e w1 ⟨rfl, hb1⟩; have B1 := Lib.hid hb1; have hs1 := hb1.size; clear hb1) | (go_at_call 68; refine (HB'.out _ (B1.out.alloc B1.out.size _)).mono ?_; rintro e w2 ⟨rfl, hb2⟩; have hp2 := bcell (b := w1.heap.size) (o := 0) (v := .int .i64 ph) hb2 (by simp [go_sem]); have B2 := Lib.hid hb2; clear hb2) | (go_at_call 119; refine (HI'.out _ _ (below_all (B1.out.alloc B1.out.size _) B2.out) hp2).mono ?_; rintro e w3 ⟨rfl, hb3⟩; have B3 := Lib.hid hb3; clear hb3))
      go_ret
      refine ⟨_, ?_, rfl, below_all (below_all (B1.out.alloc B1.out.size _) B2.out) B3.out⟩
      exact .inr ⟨by rw [E.out]; omega, b, off, rfl, by rw [E.out, show off + (m + k) * 2 = off + m * 2 + k * 2 by omega]; rfl⟩
    · have hidx : idx (fun j => F (m + j) != ph) (n - m) = -1 := by unfold idx; rw [← hk, if_neg hkn]
      rw [hidx] at HI'
      clear hidx hk
      go_enter Try.func69, Try.ntmps69
      go_wp2_with (first | (go_at_call 21; refine (HA.out).mono ?_; rintro e w1 ⟨rfl, hb1⟩; have B1 := Lib.hid hb1; have hs1 := hb1.size; clear hb1) | (go_at_call 68; refine (HB'.out _ (B1.out.alloc B1.out.size _)).mono ?_; rintro e w2 ⟨rfl, hb2⟩; have hp2 := bcell (b := w1.heap.size) (o := 0) (v := .int .i64 ph) hb2 (by simp [go_sem]); have B2 := Lib.hid hb2; clear hb2) | (go_at_call 119; refine (HI'.out _ _ (below_all (B1.out.alloc B1.out.size _) B2.out) hp2).mono ?_; rintro e w3 ⟨rfl, hb3⟩; have B3 := Lib.hid hb3; clear hb3))
      go_ret
      exact ⟨_, .inl ⟨by rw [E.out]; omega, rfl⟩, rfl, below_all (below_all (B1.out.alloc B1.out.size _) B2.out) B3.out⟩

/-- For how long the phase stays. -/
def restV (n : Nat) (T F : Nat → Int) (tick : Int) : Int := if tn n T F tick = n then -1 else T (tn n T F tick) - tick
theorem tn_gt (n : Nat) (T F : Nat → Int) (tick : Int) (hr : Rise n T) (h : tn n T F tick < n) : tick < T (tn n T F tick) :=
  bh_hi n T tick hr _ (by unfold tn; omega) h

theorem turn_no (A : Option Addr) (n c : Nat) (T F : Nat → Int) (tick : Int) (w : World) (hnc : n ≤ c) (h : Rows2 w A n T F) (hr : Rise n T) (hz : tn n T F tick = n) :
    Calls Try.prog 69 #[.slice A n c, .int .i64 tick] w fun e w' => e = .returned (.pointer none) ∧ Below w.heap.size w w' :=
  (turn_any A n c T F tick w hnc h hr).mono fun e w' ⟨v, hv, he, hb⟩ => by
    rcases hv with ⟨_, rfl⟩ | ⟨hlt, _⟩
    · exact ⟨he, hb⟩
    · exact absurd hz (by omega)
theorem turn_yes (b off n c : Nat) (T F : Nat → Int) (tick : Int) (w : World) (hnc : n ≤ c) (h : Rows2 w (some ⟨b, off, none⟩) n T F) (hr : Rise n T) (hz : tn n T F tick < n) :
    Calls Try.prog 69 #[.slice (some ⟨b, off, none⟩) n c, .int .i64 tick] w fun e w' => e = .returned (.pointer (some ⟨b, off + tn n T F tick * 2, none⟩)) ∧ Below w.heap.size w w' :=
  (turn_any _ n c T F tick w hnc h hr).mono fun e w' ⟨v, hv, he, hb⟩ => by
    rcases hv with ⟨hz', _⟩ | ⟨_, b', off', e1, e2⟩
    · exact absurd hz' (by omega)
    · injection e1 with e1
      injection e1 with e1 e3
      subst e1 e3 e2
      exact ⟨he, hb⟩

set_option maxHeartbeats 1000000 in
theorem rest_any (A : Option Addr) (n c : Nat) (T F : Nat → Int) (tick : Int) (w : World) (hnc : n ≤ c) (h : Rows2 w A n T F) (hr : Rise n T) (ht : 0 ≤ tick) (hb : ∀ i, i < n → T i ≤ 9223372036854775807) :
    Calls Try.prog 23 #[.slice A n c, .int .i64 tick] w fun e w' => e = .returned (.int .i64 (restV n T F tick)) ∧ Below w.heap.size w w' := by
  by_cases hz : tn n T F tick = n
  · have HC := Lib.hid (turn_no A n c T F tick w hnc h hr hz)
    have E := Lib.hid (show restV n T F tick = -1 from if_pos hz)
    rw [E.out]
    clear hz h hr hb
    go_enter Try.func23, Try.ntmps23
    go_wp2_with (go_at_call 69; refine (HC.out).mono ?_; rintro e w' ⟨rfl, hb'⟩)
    go_ret
    exact ⟨rfl, hb'⟩
  · have hlt : tn n T F tick < n := by have := tn_le n T F tick; omega
    have hrow := h
    obtain ⟨hn, h⟩ := h
    obtain ⟨b, off, rfl, hT, hF⟩ := h (by omega)
    have HC := Lib.hid (turn_yes b off n c T F tick w hnc hrow hr hlt)
    have E := Lib.hid (show restV n T F tick = T (tn n T F tick) - tick from if_neg hz)
    have hg := tn_gt n T F tick hr hlt
    have hm := hb _ hlt
    have hTk := hT _ hlt
    rw [E.out]
    clear hz hrow hr hb hT hF h E
    generalize tn n T F tick = k at HC hg hm hTk hlt ⊢
    generalize T k = x at hg hm hTk ⊢
    go_enter Try.func23, Try.ntmps23
    go_wp2_with (go_at_call 69; refine (HC.out).mono ?_; rintro e w' ⟨rfl, hb'⟩; have hcell := bcell hb' hTk)
    go_ret
    exact ⟨rfl, hb'⟩

/-- Is the phase Continuous from a tick to another one? -/
def lastV (n : Nat) (T F : Nat → Int) (a b : Int) : Bool := decide (a ≤ b) && (phS n T F a == 2) && (decide (tn n T F a = n) || decide (b < T (tn n T F a)))

set_option maxHeartbeats 2000000 in
theorem lasts_any (A : Option Addr) (n c : Nat) (T F : Nat → Int) (tick to : Int) (w : World) (hnc : n ≤ c) (h : Rows2 w A n T F) (hr : Rise n T) :
    Calls Try.prog 24 #[.slice A n c, .int .i64 tick, .int .i64 to] w fun e w' => e = .returned (.bool (lastV n T F tick to)) ∧ Below w.heap.size w w' := by
  by_cases h1 : to < tick
  · have E := Lib.hid (show lastV n T F tick to = false by unfold lastV; rw [decide_eq_false (by omega)]; rfl)
    rw [E.out]
    clear h hr
    go_enter Try.func24, Try.ntmps24
    go_wp2_with fail
    go_ret
    exact ⟨rfl, Below.refl _ _⟩
  · have HA := Lib.hid (at_any A n c T F tick w h hr)
    by_cases h2 : phS n T F tick = 2
    · rw [h2] at HA
      have h2' := Lib.hid h2
      have e0 : lastV n T F tick to = (decide (tn n T F tick = n) || decide (to < T (tn n T F tick))) := by unfold lastV; rw [decide_eq_true (by omega), h2]; simp
      by_cases hz : tn n T F tick = n
      · have HC : ∀ W, Below w.heap.size w W → _ := fun W hb => turn_no A n c T F tick W hnc (h.below hb) hr hz
        have HC' := Lib.hid HC
        rw [hz, decide_eq_true rfl, Bool.true_or] at e0
        rw [e0]
        clear h2 hz h hr HC e0
        go_enter Try.func24, Try.ntmps24
        go_wp2_with (first | (go_at_call 21; refine (HA.out).mono ?_; rintro e w1 ⟨rfl, hb1⟩) | (go_at_call 69; refine (HC'.out _ hb1).mono ?_; rintro e w' ⟨rfl, hb'⟩))
        go_ret
        exact ⟨rfl, below_all hb1 hb'⟩
      · have hlt : tn n T F tick < n := by have := tn_le n T F tick; omega
        have hrow := h
        obtain ⟨hn, h⟩ := h
        obtain ⟨b, off, rfl, hT, hF⟩ := h (by omega)
        have HC : ∀ W, Below w.heap.size w W → _ := fun W hb => turn_yes b off n c T F tick W hnc (hrow.below hb) hr hlt
        have HC' := Lib.hid HC
        have hTk := hT _ hlt
        rw [decide_eq_false hz, Bool.false_or] at e0
        rw [e0]
        clear h2 hz hrow hr HC hT hF h e0
        generalize tn n T F tick = k at HC' hTk hlt ⊢
        generalize T k = x at hTk ⊢
        go_enter Try.func24, Try.ntmps24
        go_wp2_with (first | (go_at_call 21; refine (HA.out).mono ?_; rintro e w1 ⟨rfl, hb1⟩) | (go_at_call 69; refine (HC'.out _ hb1).mono ?_; rintro e w' ⟨rfl, hb'⟩; have hcell := bcell (below_all hb1 hb') hTk))
        go_ret
        exact ⟨rfl, below_all hb1 hb'⟩
    · have E := Lib.hid (show lastV n T F tick to = false by unfold lastV; rw [beq_eq_false_iff_ne.2 h2]; simp)
      have hne : (phS n T F tick == 2) = false := beq_eq_false_iff_ne.2 h2
      have hne2 : (phS n T F tick != 2) = true := by simp [h2]
      rw [E.out]
      clear h hr h2
      generalize phS n T F tick = x at HA hne hne2
      go_enter Try.func24, Try.ntmps24
      go_wp2_with (first | (go_at_call 21; refine (HA.out).mono ?_; rintro e w1 ⟨rfl, hb1⟩))
      go_ret
      exact ⟨rfl, hb1⟩
end Go.Proofs.Ythhkcckikmldcaa
