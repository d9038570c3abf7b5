/-
  Session: contracts of the document's answers Rest, Lasts, Rising, and of the law's light and alive.
-/
import Derived.Test.YthhkcckikmldcaaSes3
set_option linter.unusedVariables false
set_option linter.unusedSimpArgs false
namespace Go.Proofs.Ythhkcckikmldcaa
open Go.RowKit

theorem tn_char (n : Nat) (T F : Nat → Int) (tick : Int) (hr : Rise n T) (i : Nat) (hi : i ≤ n) (h0 : ∀ j, j < i → tick < T j → F j = phS n T F tick) (h1 : i < n → tick < T i ∧ F i ≠ phS n T F tick) : tn n T F tick = i := by
  have hle := bh_le n T tick
  have hlo := bh_lo n T tick
  have hhi := bh_hi n T tick hr
  unfold tn
  have hmi : bh n T tick ≤ i := by
    by_cases e : i < n
    · by_cases e2 : i < bh n T tick
      · have := hlo i e2; have := (h1 e).1; omega
      · omega
    · omega
  rw [first_eq (p := fun j => F (bh n T tick + j) != phS n T F tick) (n := n - bh n T tick) (i := i - bh n T tick) (by omega) (fun j hj => by simpa using h0 _ (by omega) (hhi _ (by omega) (by omega))) (fun hj => by
    show (F (bh n T tick + (i - bh n T tick)) != phS n T F tick) = true
    rw [show bh n T tick + (i - bh n T tick) = i by omega]
    simpa using (h1 (by omega)).2)]
  omega
theorem tn_no (n : Nat) (T F : Nat → Int) (tick : Int) (hr : Rise n T) : ∀ j, j < tn n T F tick → tick < T j → F j = phS n T F tick := fun j hj ht => by
  have hlo := bh_lo n T tick
  have hj' : bh n T tick ≤ j := by
    by_cases e : j < bh n T tick
    · have := hlo j e; omega
    · omega
  have := first_none (fun j => F (bh n T tick + j) != phS n T F tick) (n - bh n T tick) (j - bh n T tick) (by unfold tn at hj; omega)
  simp only [show bh n T tick + (j - bh n T tick) = j by omega] at this
  simpa using this
theorem tn_yes (n : Nat) (T F : Nat → Int) (tick : Int) (h : tn n T F tick < n) : F (tn n T F tick) ≠ phS n T F tick := by
  have := first_hit (fun j => F (bh n T tick + j) != phS n T F tick) (n - bh n T tick) (by unfold tn at h; omega)
  unfold tn
  simpa using this

set_option maxHeartbeats 1000000 in
theorem refRest_any (A : Option Addr) (n c : Nat) (T F : Nat → Int) (tick : Int) (w : World) (h : Rows2 w A n T F) (hr : Rise n T) (ht : 0 ≤ tick) (hb : ∀ i, i < n → T i ≤ 9223372036854775807) :
    Calls Try.prog 26 #[.slice A n c, .int .i64 tick] w fun e w' => e = .returned (.int .i64 (restV n T F tick)) ∧ Below w.heap.size w w' := by
  have HA := Lib.hid (refAt_any A n c T F tick w h hr)
  have H := Lib.hid h.2
  have hn := h.1
  have HB := Lib.hid hb
  obtain ⟨ph, hph⟩ : ∃ ph, ph = phS n T F tick := ⟨_, rfl⟩
  rw [← hph] at HA
  have HPH := Lib.hid hph
  have HR := Lib.hid hr
  obtain ⟨R, hR⟩ : ∃ R, R = restV n T F tick := ⟨_, rfl⟩
  rw [← hR]
  have HRV := Lib.hid hR
  clear h hph hr hb hR
  go_enter Try.func26, Try.ntmps26
  go_wp2_with (go_at_call 22; refine (HA.out).mono ?_; rintro e w1 ⟨rfl, hb1⟩; have B1 := Lib.hid hb1; clear hb1)
  go_loop [6] (fun i => ∃ k : Nat, k ≤ n ∧ i = .int .i64 k ∧ Hid (∀ j, j < k → tick < T j → F j = ph)) (fun i => n - (intOf i).toNat)
  case atStart => exact ⟨0, Nat.zero_le _, rfl, (fun j hj => absurd hj (Nat.not_lt_zero _) : ∀ j, j < 0 → tick < T j → F j = ph)⟩
  case round =>
    obtain ⟨k, hk, rfl, I⟩ := hrel
    by_cases hlt : k < n
    · have hlt' : (k : Int) < (n : Int) := by omega
      obtain ⟨b, off, rfl, hT, hF⟩ := H.out (by omega)
      have h1 := bcell B1.out (hT k hlt)
      have h2 := bcell B1.out (hF k hlt)
      have hm := HB.out k hlt
      clear hT hF
      by_cases hgt : tick < T k
      · by_cases hq : F k = ph
        · have hb : (F k != ph) = false := by simp [hq]
          have I' := Lib.hid (show ∀ j, j < k + 1 → tick < T j → F j = ph from fun j hj => by
            by_cases e : j = k
            · subst e; exact fun _ => hq
            · exact I.out j (by omega))
          clear hq
          generalize T k = x at h1 hm hgt
          generalize F k = y at h2 hb
          go_wp2
          go_round
          case rel => exact ⟨k + 1, by omega, by go_num, I'⟩
          case measure => simp [intOf]; omega
        · have hb : (F k != ph) = true := by simp [hq]
          have E := Lib.hid (tn_char n T F tick HR.out k hk (fun j hj => by rw [← HPH.out]; exact I.out j hj) (fun _ => ⟨hgt, by rw [← HPH.out]; exact hq⟩))
          have E2 := Lib.hid (show R = T k - tick by rw [HRV.out]; unfold restV; rw [E.out, if_neg (by omega)])
          clear hq
          generalize T k = x at h1 hm hgt E2
          generalize F k = y at h2 hb
          go_wp2
          go_ret
          exact ⟨by rw [E2.out]; rfl, B1.out⟩
      · have I' := Lib.hid (show ∀ j, j < k + 1 → tick < T j → F j = ph from fun j hj => by
          by_cases e : j = k
          · subst e; intro h; omega
          · exact I.out j (by omega))
        generalize T k = x at h1 hm hgt
        go_wp2
        go_round
        case rel => exact ⟨k + 1, by omega, by go_num, I'⟩
        case measure => simp [intOf]; omega
    · have : k = n := by omega
      subst this
      have E := Lib.hid (tn_char k T F tick HR.out k hk (fun j hj => by rw [← HPH.out]; exact I.out j hj) (fun h => by omega))
      have E2 := Lib.hid (show R = -1 by rw [HRV.out]; unfold restV; rw [E.out, if_pos rfl])
      go_wp2
      go_ret
      exact ⟨by rw [E2.out]; rfl, B1.out⟩

set_option maxHeartbeats 1000000 in
theorem refLasts_any (A : Option Addr) (n c : Nat) (T F : Nat → Int) (tick to : Int) (w : World) (h : Rows2 w A n T F) (hr : Rise n T) :
    Calls Try.prog 25 #[.slice A n c, .int .i64 tick, .int .i64 to] w fun e w' => e = .returned (.bool (lastV n T F tick to)) ∧ Below w.heap.size w w' := by
  by_cases h1 : to < tick
  · have E := Lib.hid (show lastV n T F tick to = false by unfold lastV; rw [decide_eq_false (by omega)]; rfl)
    rw [E.out]
    clear h hr
    go_enter Try.func25, Try.ntmps25
    go_wp2_with fail
    go_ret
    exact ⟨rfl, Below.refl _ _⟩
  · have HA := Lib.hid (refAt_any A n c T F tick w h hr)
    by_cases h2 : phS n T F tick = 2
    · rw [h2] at HA
      have e0 : lastV n T F tick to = (decide (tn n T F tick = n) || decide (to < T (tn n T F tick))) := by unfold lastV; rw [decide_eq_true (by omega), h2]; simp
      have H := Lib.hid h.2
      have hn := h.1
      have HR := Lib.hid hr
      have HPH := Lib.hid h2
      have E0 := Lib.hid e0
      obtain ⟨R, hR⟩ : ∃ R, R = lastV n T F tick to := ⟨_, rfl⟩
      rw [← hR] at E0 ⊢
      clear h hr h2 e0 hR
      go_enter Try.func25, Try.ntmps25
      go_wp2_with (go_at_call 22; refine (HA.out).mono ?_; rintro e w1 ⟨rfl, hb1⟩; have B1 := Lib.hid hb1; clear hb1)
      go_loop [7] (fun i => ∃ k : Nat, k ≤ n ∧ i = .int .i64 k ∧ Hid (∀ j, j < k → tick < T j → T j ≤ to → F j = 2)) (fun i => n - (intOf i).toNat)
      case atStart => exact ⟨0, Nat.zero_le _, rfl, (fun j hj => absurd hj (Nat.not_lt_zero _) : ∀ j, j < 0 → tick < T j → T j ≤ to → F j = 2)⟩
      case round =>
        obtain ⟨k, hk, rfl, I⟩ := hrel
        by_cases hlt : k < n
        · have hlt' : (k : Int) < (n : Int) := by omega
          obtain ⟨b, off, rfl, hT, hF⟩ := H.out (by omega)
          have h1 := bcell B1.out (hT k hlt)
          have h2 := bcell B1.out (hF k hlt)
          clear hT hF
          by_cases hq : F k = 2
          · have hb : (F k != 2) = false := by simp [hq]
            have I' := Lib.hid (show ∀ j, j < k + 1 → tick < T j → T j ≤ to → F j = 2 from fun j hj => by
              by_cases e : j = k
              · subst e; exact fun _ _ => hq
              · exact I.out j (by omega))
            clear hq
            generalize F k = y at h2 hb
            generalize T k = x at h1
            by_cases c1 : tick < x
            · by_cases c2 : x ≤ to
              · go_wp2
                go_round
                case rel => exact ⟨k + 1, by omega, by go_num, I'⟩
                case measure => simp [intOf]; omega
              · go_wp2
                go_round
                case rel => exact ⟨k + 1, by omega, by go_num, I'⟩
                case measure => simp [intOf]; omega
            · go_wp2
              go_round
              case rel => exact ⟨k + 1, by omega, by go_num, I'⟩
              case measure => simp [intOf]; omega
          · have hb : (F k != 2) = true := by simp [hq]
            by_cases c : tick < T k ∧ T k ≤ to
            · obtain ⟨c1, c2⟩ := c
              have E := Lib.hid (show R = false by
                rw [E0.out]
                have hk2 : tn n T F tick ≤ k := by
                  by_cases e : k < tn n T F tick
                  · have := tn_no n T F tick HR.out k e c1; rw [HPH.out] at this; exact absurd this hq
                  · omega
                have : T (tn n T F tick) ≤ T k := by
                  by_cases e : tn n T F tick = k
                  · rw [e]; exact Int.le_refl _
                  · exact Int.le_of_lt (HR.out _ _ (by omega) hlt)
                rw [decide_eq_false (by omega), decide_eq_false (by omega)]
                rfl)
              clear hq
              generalize F k = y at h2 hb
              generalize T k = x at h1 c1 c2
              go_wp2
              go_ret
              exact ⟨by rw [E.out]; rfl, B1.out⟩
            · have I' := Lib.hid (show ∀ j, j < k + 1 → tick < T j → T j ≤ to → F j = 2 from fun j hj => by
                by_cases e : j = k
                · subst e; intro a b; exact absurd ⟨a, b⟩ c
                · exact I.out j (by omega))
              clear hq
              generalize F k = y at h2 hb
              generalize T k = x at h1 c
              by_cases c1 : tick < x
              · have c2 : ¬ x ≤ to := fun h => c ⟨c1, h⟩
                clear c
                go_wp2
                go_round
                case rel => exact ⟨k + 1, by omega, by go_num, I'⟩
                case measure => simp [intOf]; omega
              · clear c
                go_wp2
                go_round
                case rel => exact ⟨k + 1, by omega, by go_num, I'⟩
                case measure => simp [intOf]; omega
        · have : k = n := by omega
          subst this
          have E := Lib.hid (show R = true by
            rw [E0.out]
            by_cases e : tn k T F tick = k
            · rw [decide_eq_true e]; rfl
            · have hl : tn k T F tick < k := by have := tn_le k T F tick; omega
              have h3 := tn_gt k T F tick HR.out hl
              have h4 := tn_yes k T F tick hl
              rw [HPH.out] at h4
              have h5 : to < T (tn k T F tick) := by
                by_cases c : T (tn k T F tick) ≤ to
                · exact absurd (I.out _ hl h3 c) h4
                · omega
              rw [decide_eq_true h5, Bool.or_true])
          go_wp2
          go_ret
          exact ⟨by rw [E.out]; rfl, B1.out⟩
    · have E := Lib.hid (show lastV n T F tick to = false by unfold lastV; rw [beq_eq_false_iff_ne.2 h2]; simp)
      have hne : (phS n T F tick == 2) = false := beq_eq_false_iff_ne.2 h2
      have hne2 : (phS n T F tick != 2) = true := by simp [h2]
      rw [E.out]
      clear h hr h2
      generalize phS n T F tick = x at HA hne hne2
      go_enter Try.func25, Try.ntmps25
      go_wp2_with (first | (go_at_call 22; refine (HA.out).mono ?_; rintro e w1 ⟨rfl, hb1⟩))
      go_ret
      exact ⟨rfl, hb1⟩

/-- Do the rows' ticks rise, from 0 on? -/
def rsB (T : Nat → Int) : Nat → Bool
  | 0 => true
  | k + 1 => rsB T k && (decide (0 ≤ T k) && (decide (k = 0) || decide (T (k - 1) < T k)))
theorem rsB_false (T : Nat → Int) (k m : Nat) (h : rsB T (k + 1) = false) : rsB T (k + 1 + m) = false := by
  induction m with
  | zero => exact h
  | succ m ih => show (rsB T (k + 1 + m) && _) = false; rw [ih]; rfl
theorem rsB_nonneg (T : Nat → Int) (n : Nat) (h : rsB T n = true) : ∀ i, i < n → 0 ≤ T i := by
  induction n with
  | zero => intro i hi; exact absurd hi (Nat.not_lt_zero _)
  | succ n ih =>
    intro i hi
    have h' : (rsB T n && (decide (0 ≤ T n) && (decide (n = 0) || decide (T (n - 1) < T n)))) = true := h
    simp only [Bool.and_eq_true, decide_eq_true_eq] at h'
    by_cases e : i = n
    · subst e; exact h'.2.1
    · exact ih h'.1 i (by omega)
theorem rsB_rise (T : Nat → Int) (n : Nat) (h : rsB T n = true) : Rise n T := by
  induction n with
  | zero => intro i j _ hj; exact absurd hj (Nat.not_lt_zero _)
  | succ n ih =>
    intro i j hij hj
    have h' : (rsB T n && (decide (0 ≤ T n) && (decide (n = 0) || decide (T (n - 1) < T n)))) = true := h
    simp only [Bool.and_eq_true, Bool.or_eq_true, decide_eq_true_eq] at h'
    by_cases e : j = n
    · subst e
      have h3 : T (j - 1) < T j := by rcases h'.2.2 with h | h <;> omega
      by_cases e2 : i = j - 1
      · rw [e2]; exact h3
      · have := ih h'.1 i (j - 1) (by omega) (by omega); omega
    · exact ih h'.1 i j hij (by omega)

set_option maxHeartbeats 2000000 in
theorem rising_any (A : Option Addr) (n c : Nat) (T F : Nat → Int) (w : World) (h : Rows2 w A n T F) :
    Calls Try.prog 67 #[.slice A n c] w fun e w' => e = .returned (.bool (rsB T n)) ∧ Below w.heap.size w w' := by
  have H := Lib.hid h.2
  have hn := h.1
  obtain ⟨R, hR⟩ : ∃ R, R = rsB T n := ⟨_, rfl⟩
  rw [← hR]
  have HR := Lib.hid hR
  clear h hR
  go_enter Try.func67, Try.ntmps67
  go_wp2
  go_loopw [3] (fun i wr => ∃ k : Nat, k ≤ n ∧ i = .int .i64 k ∧ Hid (rsB T k = true) ∧ Hid (Below w.heap.size w wr)) (fun i _ => n - (intOf i).toNat)
  case atStart => exact ⟨0, Nat.zero_le _, rfl, (rfl : rsB T 0 = true), (Below.refl _ _ : Below _ _ _)⟩
  case round =>
    obtain ⟨k, hk, rfl, I, BW⟩ := hrel
    by_cases hlt : k < n
    · have hlt' : (k : Int) < (n : Int) := by omega
      obtain ⟨b, off, rfl, hT, hF⟩ := H.out (by omega)
      have h1 := bcell BW.out (hT k hlt)
      have e0 : rsB T (k + 1) = (decide (0 ≤ T k) && (decide (k = 0) || decide (T (k - 1) < T k))) := by
        show (rsB T k && _) = _
        rw [I.out, Bool.true_and]
      by_cases c1 : T k < 0
      · have E := Lib.hid (show R = false by
          rw [HR.out]
          have := rsB_false T k (n - (k + 1)) (by rw [e0, decide_eq_false (by omega)]; rfl)
          rwa [show k + 1 + (n - (k + 1)) = n by omega] at this)
        have c1' : decide (T k < 0) = true := decide_eq_true c1
        clear e0 hT hF
        generalize T k = x at h1 c1 c1'
        go_wp2
        go_quiet (fail)
        go_wp2
        go_ret
        exact ⟨by rw [E.out]; rfl, below_drewN BW.out _⟩
      · have c1' : decide (T k < 0) = false := decide_eq_false c1
        by_cases hk0 : k = 0
        · subst hk0
          have I' := Lib.hid (show rsB T (0 + 1) = true by rw [e0, decide_eq_true (by omega)]; rfl)
          clear e0 hT hF
          simp only [Nat.zero_mul, Nat.add_zero] at h1
          generalize T 0 = x at h1 c1 c1'
          go_wp2
          go_quiet (fail)
          go_wp2
          go_roundw
          case rel => exact ⟨1, by omega, by first | rfl | go_num, I', below_drewN BW.out _⟩
          case measure => simp [intOf]; omega
        · have h2 := bcell BW.out (hT (k - 1) (by omega))
          obtain ⟨m, rfl⟩ : ∃ m, k = m + 1 := ⟨k - 1, by omega⟩
          simp only [Nat.add_sub_cancel] at h2 e0
          clear hT hF
          have hk1 : decide ((0 : Int) < (m : Int) + 1) = true := decide_eq_true (by omega)
          have hk2 : (0 : Int) < (m : Int) + 1 := by omega
          by_cases c2 : T m < T (m + 1)
          · have I' := Lib.hid (show rsB T (m + 1 + 1) = true by rw [e0, decide_eq_true (by omega), decide_eq_true c2, Bool.or_true]; rfl)
            clear e0
            generalize T (m + 1) = x at h1 c1 c1' c2
            generalize T m = y at h2 c2
            have c2' : decide (x ≤ y) = false := decide_eq_false (by omega)
            go_wp2
            go_quiet (fail)
            go_wp2
            go_roundw
            case rel => exact ⟨m + 1 + 1, by omega, by go_num, I', below_drewN BW.out _⟩
            case measure => simp [intOf]; omega
          · have E := Lib.hid (show R = false by
              rw [HR.out]
              have := rsB_false T (m + 1) (n - (m + 1 + 1)) (by rw [e0, decide_eq_false (show ¬ m + 1 = 0 by omega), decide_eq_false c2]; simp)
              rwa [show m + 1 + 1 + (n - (m + 1 + 1)) = n by omega] at this)
            clear e0
            generalize T (m + 1) = x at h1 c1 c1' c2
            generalize T m = y at h2 c2
            have c2' : decide (x ≤ y) = true := decide_eq_true (by omega)
            go_wp2
            go_quiet (fail)
            go_wp2
            go_ret
            exact ⟨by rw [E.out]; rfl, below_drewN BW.out _⟩
    · have : k = n := by omega
      subst this
      have E := Lib.hid (show R = true by rw [HR.out]; exact I.out)
      go_wp2
      go_ret
      exact ⟨by rw [E.out]; rfl, BW.out⟩
end Go.Proofs.Ythhkcckikmldcaa
