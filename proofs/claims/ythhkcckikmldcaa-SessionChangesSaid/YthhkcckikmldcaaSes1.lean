/-
  Session: contracts of behind$1, sort.Search, behind.
-/
import Derived.Test.YthhkcckikmldcaaBase
set_option linter.unusedVariables false
set_option linter.unusedSimpArgs false
namespace Go.Proofs.Ythhkcckikmldcaa
open Go.RowKit

set_option maxHeartbeats 400000 in
theorem behind1_any (i : Nat) (Bt Bk b off n c : Nat) (tick x : Int) (w : World) (hi : (i : Int) < (n : Int)) (hn : n ≤ 9223372036854775807)
    (hct : w.cell? ⟨Bt, 0, none⟩ = some (.slice (some ⟨b, off, none⟩) n c)) (hck : w.cell? ⟨Bk, 0, none⟩ = some (.int .i64 tick))
    (hcell : w.cell? ⟨b, off + i * 2, none⟩ = some (.int .i64 x)) :
    Calls Try.prog 118 #[.int .i64 i, .pointer (some ⟨Bt, 0, none⟩), .pointer (some ⟨Bk, 0, none⟩)] w fun e w' => e = .returned (.bool (decide (tick < x))) ∧ ∃ q, w' = w.drewN q := by
  go_enter Try.func118, Try.ntmps118
  go_wp2
  go_quiet (fail)
  go_wp2
  go_ret
  exact ⟨rfl, _, rfl⟩

set_option maxHeartbeats 1000000 in
theorem search_any (Bt Bk b off n c : Nat) (tick : Int) (T : Nat → Int) (w : World) (hn : n ≤ 9223372036854775807 / 2)
    (hct : w.cell? ⟨Bt, 0, none⟩ = some (.slice (some ⟨b, off, none⟩) n c)) (hck : w.cell? ⟨Bk, 0, none⟩ = some (.int .i64 tick))
    (hcell : ∀ i, i < n → w.cell? ⟨b, off + i * 2, none⟩ = some (.int .i64 (T i)))
    (hmono : ∀ i j, i < j → j < n → T i < T j) :
    Calls Try.prog 117 #[.int .i64 n, .func (.func 118) #[] #[.pointer (some ⟨Bt, 0, none⟩), .pointer (some ⟨Bk, 0, none⟩)]] w fun e w' => e = .returned (.int .i64 (first (fun i => decide (tick < T i)) n)) ∧ ∃ q, w' = w.drewN q := by
  have hf : ∀ (q i : Nat), i < n → Calls Try.prog 118 #[.int .i64 i, .pointer (some ⟨Bt, 0, none⟩), .pointer (some ⟨Bk, 0, none⟩)] (w.drewN q) fun e w' => e = .returned (.bool (decide (tick < T i))) ∧ ∃ q', w' = w.drewN q' := fun q i hi =>
    (behind1_any i Bt Bk b off n c tick (T i) (w.drewN q) (by omega) (by omega) hct hck (hcell i hi)).mono fun e w' ⟨he, q', hq⟩ => ⟨he, q + q', by rw [hq, World.drewN_drewN]⟩
  have HF := Lib.hid hf
  have M := Lib.hid hmono
  clear hf hmono hct hck hcell
  go_enter Try.func117, Try.ntmps117
  go_wp2
  go_loopg [5, 6] n (fun kx s5 s6 wr => ∃ (lo hi q : Nat), s5 = .int .i64 lo ∧ s6 = .int .i64 hi ∧ lo ≤ hi ∧ hi ≤ n ∧ hi - lo ≤ kx ∧ wr = w.drewN q ∧
    Hid ((∀ t, t < lo → T t ≤ tick) ∧ (∀ t, hi ≤ t → t < n → tick < T t)))
  case atStart => exact ⟨0, n, 0, rfl, rfl, Nat.zero_le _, Nat.le_refl _, by omega, rfl, (⟨fun t ht => absurd ht (Nat.not_lt_zero _), fun t h1 h2 => by omega⟩ : (∀ t, t < 0 → T t ≤ tick) ∧ (∀ t, n ≤ t → t < n → tick < T t))⟩
  case round =>
    obtain ⟨lo, hi, q, rfl, rfl, hlh, hin, hg, rfl, I⟩ := hrel
    by_cases hlt : lo < hi
    · have hc := HF.out q ((lo + hi) / 2) (by omega)
      rw [show (((lo + hi) / 2 : Nat) : Int) = ((lo : Int) + (hi : Int)) / 2 by omega] at hc
      by_cases hp : tick < T ((lo + hi) / 2)
      · rw [decide_eq_true hp] at hc
        have HP := Lib.hid hp
        clear hp
        go_wp2_with (go_at_call 118; refine hc.mono ?_; rintro e w' ⟨rfl, nq, rfl⟩)
        go_roundg ((lo + hi) / 2 - lo)
        case measure => omega
        case rel =>
          refine ⟨lo, (lo + hi) / 2, nq, rfl, by go_num, by omega, by omega, by omega, rfl, ?_⟩
          exact (⟨I.out.1, fun t h1 h2 => by
            by_cases e : t = (lo + hi) / 2
            · rw [e]; exact HP.out
            · have := M.out ((lo + hi) / 2) t (by omega) h2; have := HP.out; omega⟩ : (∀ t, t < lo → T t ≤ tick) ∧ (∀ t, (lo + hi) / 2 ≤ t → t < n → tick < T t))
      · rw [decide_eq_false hp] at hc
        have HP := Lib.hid hp
        clear hp
        go_wp2_with (go_at_call 118; refine hc.mono ?_; rintro e w' ⟨rfl, nq, rfl⟩)
        go_roundg (hi - ((lo + hi) / 2 + 1))
        case measure => omega
        case rel =>
          refine ⟨(lo + hi) / 2 + 1, hi, nq, by go_num, rfl, by omega, by omega, by omega, rfl, ?_⟩
          exact (⟨fun t h1 => by
            by_cases e : t = (lo + hi) / 2
            · rw [e]; have := HP.out; omega
            · have := M.out t ((lo + hi) / 2) (by omega) (by omega); have := HP.out; omega, I.out.2⟩ : (∀ t, t < (lo + hi) / 2 + 1 → T t ≤ tick) ∧ (∀ t, hi ≤ t → t < n → tick < T t))
    · have hlh' : lo = hi := by omega
      subst hlh'
      have I0 := I.out
      have I1 : first (fun i => decide (tick < T i)) n = lo := first_eq hin (fun j hj => by simpa using I0.1 j hj) (fun h => by simpa using I0.2 lo (Nat.le_refl _) h)
      have I2 := Lib.hid I1
      clear I0 I1
      go_wp2
      go_ret
      exact ⟨by rw [I2.out]; rfl, q, rfl⟩

/-- A table that came in (or that the call made): nil or empty, or rows at an address. -/
def Rows2 (w : World) (A : Option Addr) (n : Nat) (T F : Nat → Int) : Prop :=
  n ≤ 4611686018427387903 ∧ (0 < n → ∃ b off, A = some ⟨b, off, none⟩ ∧ (∀ i, i < n → w.cell? ⟨b, off + i * 2, none⟩ = some (.int .i64 (T i))) ∧ (∀ i, i < n → w.cell? ⟨b, off + i * 2 + 1, none⟩ = some (.int .i64 (F i))))
theorem Rows2.below {w w1 : World} {A : Option Addr} {n : Nat} {T F : Nat → Int} (h : Rows2 w A n T F) (hb : Below w.heap.size w w1) : Rows2 w1 A n T F :=
  ⟨h.1, fun hn => by
    obtain ⟨b, off, e, h1, h2⟩ := h.2 hn
    exact ⟨b, off, e, fun i hi => bcell hb (h1 i hi), fun i hi => bcell hb (h2 i hi)⟩⟩
def Rise (n : Nat) (T : Nat → Int) : Prop := ∀ i j, i < j → j < n → T i < T j
def bh (n : Nat) (T : Nat → Int) (tick : Int) : Nat := first (fun i => decide (tick < T i)) n

set_option maxHeartbeats 400000 in
theorem search_zero (f : Value) (w : World) :
    Calls Try.prog 117 #[.int .i64 0, f] w fun e w' => e = .returned (.int .i64 0) ∧ w' = w := by
  go_enter Try.func117, Try.ntmps117
  go_wp2
  go_loopg [5, 6] 0 (fun kx s5 s6 wr => s5 = .int .i64 0 ∧ s6 = .int .i64 0 ∧ wr = w)
  case atStart => exact ⟨rfl, rfl, rfl⟩
  case round =>
    obtain ⟨rfl, rfl, rfl⟩ := hrel
    go_wp2
    go_ret
    exact ⟨rfl, rfl⟩

set_option maxHeartbeats 1000000 in
theorem behind_any (A : Option Addr) (n c : Nat) (T F : Nat → Int) (tick : Int) (w : World) (h : Rows2 w A n T F) (hr : Rise n T) :
    Calls Try.prog 68 #[.slice A n c, .int .i64 tick] w fun e w' => e = .returned (.int .i64 (bh n T tick)) ∧ Below w.heap.size w w' := by
  by_cases hz : n = 0
  · subst hz
    go_enter Try.func68, Try.ntmps68
    go_wp2_with (go_at_call 117; refine (search_zero _ _).mono ?_; rintro e w' ⟨rfl, rfl⟩)
    go_ret
    exact ⟨rfl, by repeat (first | exact Below.refl _ _ | refine Below.alloc ?_ (by simp) _)⟩
  · obtain ⟨hn, h⟩ := h
    obtain ⟨b, off, rfl, hT, hF⟩ := h (by omega)
    have hb : b < w.heap.size := World.block_lt_of_cell? w _ (hT 0 (by omega))
    have hc : ∀ i, i < n → ((w.alloc (.cells #[.slice (some ⟨b, off, none⟩) n c] 22)).alloc (.cells #[.int .i64 tick] 2)).cell? ⟨b, off + i * 2, none⟩ = some (.int .i64 (T i)) := fun i hi => by
      refine bcell (Below.alloc (Below.alloc (Below.refl _ _) (Nat.le_refl _) _) (by simp) _) (hT i hi)
    have key := search_any w.heap.size (w.heap.size + 1) b off n c tick T ((w.alloc (.cells #[.slice (some ⟨b, off, none⟩) n c] 22)).alloc (.cells #[.int .i64 tick] 2)) (by omega) (by simp [go_sem]) (by simp [go_sem]) hc hr
    have HK := Lib.hid key
    clear key hc hT hF hr
    go_enter Try.func68, Try.ntmps68
    go_wp2_with (go_at_call 117; refine (HK.out).mono ?_; rintro e w' ⟨rfl, q, rfl⟩)
    go_ret
    exact ⟨rfl, below_drewN (by repeat (first | exact Below.refl _ _ | refine Below.alloc ?_ (by simp) _)) _⟩

end Go.Proofs.Ythhkcckikmldcaa
