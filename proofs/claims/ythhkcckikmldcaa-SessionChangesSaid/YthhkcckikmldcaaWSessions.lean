/-
  The walks of SessionLasts and SessionStays over a table as it is read.
-/
import Derived.Test.YthhkcckikmldcaaWSessionAts
set_option linter.unusedVariables false
set_option linter.unusedSimpArgs false
namespace Go.Proofs.Ythhkcckikmldcaa
open Go.RowKit

theorem light_gen (A : Option Addr) (n c : Nat) (G : Nat → Nat → Int) (tick : Int) (w : World) (h : Tab w A n 2 G) (hm : n ≤ 9223372036854775807) :
    Calls Try.prog 17 #[.slice A n c, .int .i64 tick] w fun e w' => e = .returned (.bool (ltB n (fun i => G i 0) tick)) ∧ Below w.heap.size w w' := by
  by_cases hn : n ≤ 60
  · exact light_any A n c _ _ tick w (rows2_of h hn)
  · rw [show ltB n (fun i => G i 0) tick = false by unfold ltB; rw [decide_eq_false hn]; rfl]
    exact light_long A n c tick w (by omega) hm
theorem ltB_yes {n : Nat} {T : Nat → Int} {tick : Int} (h : ltB n T tick = true) : n ≤ 60 ∧ Rise n T ∧ 0 ≤ tick := by
  unfold ltB at h
  simp only [Bool.and_eq_true, decide_eq_true_eq] at h
  exact ⟨h.1, rsB_rise T n h.2.1, h.2.2⟩

set_option maxHeartbeats 1000000 in
theorem walkSessionLasts (w : World) (A : Option Addr) (n c : Nat) (hnc : n ≤ c) (hmx : c ≤ 9223372036854775807) (G : Nat → Nat → Int) (h : Tab w A n 2 G) (hg : ∀ i, i < n → ∀ j, j < 2 → i64Ok (G i j)) (tick : Int) (ht : -9223372036854775808 ≤ tick ∧ tick ≤ 9223372036854775807) (to : Int) (ht2 : -9223372036854775808 ≤ to ∧ to ≤ 9223372036854775807) :
    Calls Try.prog 5 #[.slice A n c, .int .i64 tick, .int .i64 to] w fun e w' => e = .returned (.bool true) ∧ Below w.heap.size w w' := by
  have HL := Lib.hid (light_gen A n c G tick w h (by omega))
  cases hl : ltB n (fun i => G i 0) tick
  · rw [hl] at HL
    clear hl h hg
    go_enter Try.func5, Try.ntmps5
    go_wp2_with fail
    refine (HL.out).mono ?_
    rintro e w1 ⟨rfl, hb1⟩
    go_wp2_with fail
    refine (alive8 _).mono ?_
    rintro e w2 ⟨rfl, hb2⟩
    go_wp2_with fail
    go_ret
    exact ⟨rfl, below_all hb1 hb2⟩
  · rw [hl] at HL
    obtain ⟨h60, hr, h0⟩ := ltB_yes hl
    have hR := rows2_of h h60
    have HN := Lib.hid (fun W (hb : Below w.heap.size w W) => lasts_any A n c _ _ tick to W hnc (hR.below hb) hr)
    have HM := Lib.hid (fun W (hb : Below w.heap.size w W) => refLasts_any A n c _ _ tick to W (hR.below hb) hr)
    have HA := Lib.hid (fun W (hb : Below w.heap.size w W) => rest_any A n c _ _ tick W hnc (hR.below hb) hr h0 (fun i hi => (hg i hi 0 (by omega)).2))
    have HB := Lib.hid (fun W (hb : Below w.heap.size w W) => refRest_any A n c _ _ tick W (hR.below hb) hr h0 (fun i hi => (hg i hi 0 (by omega)).2))
    clear hl h hr hg hR
    by_cases c1 : to < 0
    · go_enter Try.func5, Try.ntmps5
      go_wp2_with fail
      refine (HL.out).mono ?_
      rintro e w1 ⟨rfl, hb1⟩
      go_wp2_with fail
      refine (alive8 _).mono ?_
      rintro e w2 ⟨rfl, hb2⟩
      go_wp2_with fail
      go_ret
      exact ⟨rfl, below_all hb1 hb2⟩
    · go_enter Try.func5, Try.ntmps5
      go_wp2_with fail
      refine (HL.out).mono ?_
      rintro e w1 ⟨rfl, B1⟩
      go_wp2_with fail
      refine (HN.out _ B1).mono ?_
      rintro e w2 ⟨rfl, b2⟩
      have B2 := below_all B1 b2
      go_wp2_with fail
      refine (HM.out _ B2).mono ?_
      rintro e w3 ⟨rfl, b3⟩
      have B3 := below_all B2 b3
      go_wp2_with fail
      refine (HA.out _ B3).mono ?_
      rintro e w4 ⟨rfl, b4⟩
      have B4 := below_all B3 b4
      go_wp2_with fail
      refine (HB.out _ B4).mono ?_
      rintro e w5 ⟨rfl, b5⟩
      have B5 := below_all B4 b5
      go_wp2_with fail
      refine (alive8 _).mono ?_
      rintro e w6 ⟨rfl, b6⟩
      go_wp2_with fail
      go_ret
      exact ⟨rfl, below_all B5 b6⟩

/-! ### A phase stays until it turns -/
theorem ph_stays (n : Nat) (T F : Nat → Int) (tick m : Int) (hr : Rise n T) (hm : 0 ≤ m) (h : tn n T F tick = n ∨ tick + m < T (tn n T F tick)) : phS n T F (tick + m) = phS n T F tick := by
  have hlo := bh_lo n T (tick + m)
  have hle := bh_le n T (tick + m)
  have hle0 := bh_le n T tick
  have hge : bh n T tick ≤ bh n T (tick + m) := by
    by_cases e : bh n T (tick + m) < bh n T tick
    · have h1 := bh_lo n T tick _ e
      have h2 := bh_hi n T (tick + m) hr _ (Nat.le_refl _) (by omega)
      omega
    · omega
  by_cases e : bh n T (tick + m) = bh n T tick
  · unfold phS; rw [e]
  · obtain ⟨k, hk⟩ : ∃ k, bh n T (tick + m) = k + 1 := ⟨bh n T (tick + m) - 1, by omega⟩
    have h1 : phS n T F (tick + m) = F k := by unfold phS; rw [hk, if_neg (by omega)]; rfl
    have h2 : T k ≤ tick + m := hlo k (by omega)
    have h3 : tick < T k := bh_hi n T tick hr k (by omega) (by omega)
    rw [h1]
    refine tn_no n T F tick hr k ?_ h3
    rcases h with h | h
    · omega
    · by_cases e2 : k < tn n T F tick
      · exact e2
      · by_cases e3 : k = tn n T F tick
        · rw [e3] at h2; omega
        · have := hr (tn n T F tick) k (by omega) (by omega); omega
theorem ph_turns (n : Nat) (T F : Nat → Int) (tick : Int) (hr : Rise n T) (h : tn n T F tick < n) : phS n T F (T (tn n T F tick)) ≠ phS n T F tick := by
  have hb : bh n T (T (tn n T F tick)) = tn n T F tick + 1 := first_eq (by omega) (fun j hj => by
    have : T j ≤ T (tn n T F tick) := by
      by_cases e : j = tn n T F tick
      · rw [e]; exact Int.le_refl _
      · exact Int.le_of_lt (hr j _ (by omega) h)
    simpa using this) (fun hlt => by simpa using hr (tn n T F tick) _ (Nat.lt_succ_self _) hlt)
  have := tn_yes n T F tick h
  unfold phS at this ⊢
  rw [hb, if_neg (by omega)]
  exact this

theorem stays_no {n : Nat} {T F : Nat → Int} {tick : Int} (h : restV n T F tick < 0) (hr : Rise n T) (ht : 0 ≤ tick) : tn n T F tick = n := by
  by_cases e : tn n T F tick = n
  · exact e
  · have := tn_gt n T F tick hr (by have := tn_le n T F tick; omega)
    unfold restV at h
    rw [if_neg e] at h
    omega
theorem stays_yes {n : Nat} {T F : Nat → Int} {tick : Int} (h : ¬ restV n T F tick < 0) : tn n T F tick < n ∧ tick + restV n T F tick = T (tn n T F tick) := by
  have hle := tn_le n T F tick
  unfold restV at h ⊢
  by_cases e : tn n T F tick = n
  · rw [if_pos e] at h; omega
  · rw [if_neg e]; omega

set_option maxHeartbeats 2000000 in
theorem walkSessionStays (w : World) (A : Option Addr) (n c : Nat) (hnc : n ≤ c) (hmx : c ≤ 9223372036854775807) (G : Nat → Nat → Int) (h : Tab w A n 2 G) (hg : ∀ i, i < n → ∀ j, j < 2 → i64Ok (G i j)) (tick : Int) (ht : -9223372036854775808 ≤ tick ∧ tick ≤ 9223372036854775807) (m : Int) (ht2 : -9223372036854775808 ≤ m ∧ m ≤ 9223372036854775807) :
    Calls Try.prog 4 #[.slice A n c, .int .i64 tick, .int .i64 m] w fun e w' => e = .returned (.bool true) ∧ Below w.heap.size w w' := by
  have HL := Lib.hid (light_gen A n c G tick w h (by omega))
  cases hl : ltB n (fun i => G i 0) tick
  · rw [hl] at HL
    clear hl h hg
    go_enter Try.func4, Try.ntmps4
    go_wp2_with fail
    refine (HL.out).mono ?_
    rintro e w1 ⟨rfl, hb1⟩
    go_wp2_with fail
    refine (alive8 _).mono ?_
    rintro e w2 ⟨rfl, hb2⟩
    go_wp2_with fail
    go_ret
    exact ⟨rfl, below_all hb1 hb2⟩
  · rw [hl] at HL
    obtain ⟨h60, hr, h0⟩ := ltB_yes hl
    have hR := rows2_of h h60
    have HAt := Lib.hid (fun (tk : Int) W (hb : Below w.heap.size w W) => at_any A n c _ _ tk W (hR.below hb) hr)
    have HA := Lib.hid (fun W (hb : Below w.heap.size w W) => rest_any A n c _ _ tick W hnc (hR.below hb) hr h0 (fun i hi => (hg i hi 0 (by omega)).2))
    by_cases c1 : m < 0 ∨ 1152921504606846976 < m ∨ 1152921504606846976 < tick
    · clear hl h hr hg hR HAt HA
      have fin : ∀ (x : Bool), x = true → True := fun _ _ => trivial
      rcases (by omega : m < 0 ∨ (0 ≤ m ∧ 1152921504606846976 < m) ∨ (0 ≤ m ∧ m ≤ 1152921504606846976 ∧ 1152921504606846976 < tick)) with c | ⟨c0, c⟩ | ⟨c0, c2, c⟩
      · go_enter Try.func4, Try.ntmps4
        go_wp2_with fail
        refine (HL.out).mono ?_
        rintro e w1 ⟨rfl, hb1⟩
        go_wp2_with fail
        refine (alive8 _).mono ?_
        rintro e w2 ⟨rfl, hb2⟩
        go_wp2_with fail
        go_ret
        exact ⟨rfl, below_all hb1 hb2⟩
      · clear c1
        go_enter Try.func4, Try.ntmps4
        go_wp2_with fail
        refine (HL.out).mono ?_
        rintro e w1 ⟨rfl, hb1⟩
        go_wp2_with fail
        refine (alive8 _).mono ?_
        rintro e w2 ⟨rfl, hb2⟩
        go_wp2_with fail
        go_ret
        exact ⟨rfl, below_all hb1 hb2⟩
      · clear c1
        go_enter Try.func4, Try.ntmps4
        go_wp2_with fail
        refine (HL.out).mono ?_
        rintro e w1 ⟨rfl, hb1⟩
        go_wp2_with fail
        refine (alive8 _).mono ?_
        rintro e w2 ⟨rfl, hb2⟩
        go_wp2_with fail
        go_ret
        exact ⟨rfl, below_all hb1 hb2⟩
    · have c2 : 0 ≤ m := by omega
      have c3 : m ≤ 1152921504606846976 := by omega
      have c4 : tick ≤ 1152921504606846976 := by omega
      clear c1
      by_cases hneg : restV n (fun i => G i 0) (fun i => G i 1) tick < 0
      · have E := Lib.hid (ph_stays n _ (fun i => G i 1) tick m hr c2 (Or.inl (stays_no hneg hr h0)))
        have H1 := Lib.hid (HAt.out (tick + m))
        rw [E.out] at H1
        clear hl h hr hg hR E
        go_enter Try.func4, Try.ntmps4
        go_wp2_with fail
        refine (HL.out).mono ?_
        rintro e w1 ⟨rfl, B1⟩
        go_wp2_with fail
        refine (HA.out _ B1).mono ?_
        rintro e w2 ⟨rfl, b2⟩
        have B2 := below_all B1 b2
        go_wp2_with fail
        refine (H1.out _ B2).mono ?_
        rintro e w3 ⟨rfl, b3⟩
        have B3 := below_all B2 b3
        go_wp2_with fail
        refine (HAt.out _ _ B3).mono ?_
        rintro e w4 ⟨rfl, b4⟩
        have B4 := below_all B3 b4
        go_wp2_with fail
        refine (alive8 _).mono ?_
        rintro e w5 ⟨rfl, b5⟩
        go_wp2_with fail
        go_ret
        exact ⟨rfl, below_all B4 b5⟩
      · obtain ⟨hlt, htr⟩ := stays_yes hneg
        have hgt := tn_gt n _ (fun i => G i 1) tick hr hlt
        have hmax := (hg _ hlt 0 (by omega)).2
        have hne := ph_turns n _ (fun i => G i 1) tick hr hlt
        rw [← htr] at hne hgt hmax
        have hst : m < restV n (fun i => G i 0) (fun i => G i 1) tick → phS n (fun i => G i 0) (fun i => G i 1) (tick + m) = phS n (fun i => G i 0) (fun i => G i 1) tick := fun hlt' =>
          ph_stays n _ (fun i => G i 1) tick m hr c2 (Or.inr (by rw [← htr]; omega))
        clear htr hlt hl h hr hg hR
        have hpos : 0 < restV n (fun i => G i 0) (fun i => G i 1) tick := by omega
        generalize restV n (fun i => G i 0) (fun i => G i 1) tick = r at *
        have H2 := Lib.hid (HAt.out (tick + r))
        have H3 := Lib.hid (HAt.out tick)
        have H4 := Lib.hid (HAt.out (tick + m))
        have hb : (phS n (fun i => G i 0) (fun i => G i 1) (tick + r) != phS n (fun i => G i 0) (fun i => G i 1) tick) = true := by simp [hne]
        have ST := Lib.hid hst
        clear hne HAt hst
        generalize phS n (fun i => G i 0) (fun i => G i 1) (tick + r) = p2 at H2 hb
        by_cases hmr : m < r
        · have e := ST.out hmr
          rw [e] at H4
          clear e
          clear ST
          generalize phS n (fun i => G i 0) (fun i => G i 1) tick = p0 at H3 hb H4
          go_enter Try.func4, Try.ntmps4
          go_wp2_with fail
          refine (HL.out).mono ?_
          rintro e w1 ⟨rfl, B1⟩
          go_wp2_with fail
          refine (HA.out _ B1).mono ?_
          rintro e w2 ⟨rfl, b2⟩
          have B2 := below_all B1 b2
          go_wp2_with fail
          refine (H4.out _ B2).mono ?_
          rintro e w3 ⟨rfl, b3⟩
          have B3 := below_all B2 b3
          go_wp2_with fail
          refine (H3.out _ B3).mono ?_
          rintro e w4 ⟨rfl, b4⟩
          have B4 := below_all B3 b4
          go_wp2_with fail
          refine (H2.out _ B4).mono ?_
          rintro e w5 ⟨rfl, b5⟩
          have B5 := below_all B4 b5
          go_wp2_with fail
          refine (H3.out _ B5).mono ?_
          rintro e w6 ⟨rfl, b6⟩
          have B6 := below_all B5 b6
          go_wp2_with fail
          refine (alive8 _).mono ?_
          rintro e w7 ⟨rfl, b7⟩
          go_wp2_with fail
          go_ret
          exact ⟨rfl, below_all B6 b7⟩
        · clear ST H4
          generalize phS n (fun i => G i 0) (fun i => G i 1) tick = p0 at H3 hb
          go_enter Try.func4, Try.ntmps4
          go_wp2_with fail
          refine (HL.out).mono ?_
          rintro e w1 ⟨rfl, B1⟩
          go_wp2_with fail
          refine (HA.out _ B1).mono ?_
          rintro e w2 ⟨rfl, b2⟩
          have B2 := below_all B1 b2
          go_wp2_with fail
          refine (H2.out _ B2).mono ?_
          rintro e w5 ⟨rfl, b5⟩
          have B5 := below_all B2 b5
          go_wp2_with fail
          refine (H3.out _ B5).mono ?_
          rintro e w6 ⟨rfl, b6⟩
          have B6 := below_all B5 b6
          go_wp2_with fail
          refine (alive8 _).mono ?_
          rintro e w7 ⟨rfl, b7⟩
          go_wp2_with fail
          go_ret
          exact ⟨rfl, below_all B6 b7⟩
end Go.Proofs.Ythhkcckikmldcaa
