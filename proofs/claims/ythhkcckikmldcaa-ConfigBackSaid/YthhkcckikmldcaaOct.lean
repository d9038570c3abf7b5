/-
  Numbers as bytes, in plain words: how a number is written, how one is read, and that the one undoes the other. No function of the program is walked here.
-/
set_option linter.unusedVariables false
set_option linter.unusedSimpArgs false
namespace Go.Proofs.Ythhkcckikmldcaa

/-- A number's bytes: groups of seven, the least first. -/
def numL (n : Nat) : List UInt8 := if h : n < 128 then [UInt8.ofNat n] else UInt8.ofNat (n % 128 + 128) :: numL (n / 128)
termination_by n
decreasing_by omega
theorem numL_small {n : Nat} (h : n < 128) : numL n = [UInt8.ofNat n] := by rw [numL, dif_pos h]
theorem numL_big {n : Nat} (h : ¬ n < 128) : numL n = UInt8.ofNat (n % 128 + 128) :: numL (n / 128) := by rw [numL, dif_neg h]
theorem numL_pos (n : Nat) : 1 ≤ (numL n).length := by
  by_cases hs : n < 128
  · rw [numL_small hs]; simp
  · rw [numL_big hs]; simp
theorem numL_len (n : Nat) : ∀ k, n < 128 ^ (k + 1) → (numL n).length ≤ k + 1 := by
  intro k
  induction k generalizing n with
  | zero => intro h; rw [numL_small (by simpa using h)]; simp
  | succ k ih =>
    intro h
    by_cases hs : n < 128
    · rw [numL_small hs]; simp
    · rw [numL_big hs]
      have := ih (n / 128) (by rw [Nat.div_lt_iff_lt_mul (by omega)]; rw [Nat.pow_succ] at h; omega)
      simp; omega

/-- Reading: f groups may still come, i have come, they make acc; the fault (3: too few bytes, 4: no such form), the number, how many bytes. -/
def rd : Nat → Nat → Nat → List UInt8 → Nat × Nat × Nat
  | 0, _, _, _ => (4, 0, 0)
  | _ + 1, _, _, [] => (3, 0, 0)
  | f + 1, i, acc, b :: l =>
    if f = 0 ∧ 1 < b.toNat % 128 then (4, 0, 0)
    else if 128 ≤ b.toNat then rd f (i + 1) (acc + b.toNat % 128 * 128 ^ i) l
    else if b.toNat % 128 = 0 ∧ 0 < i then (4, 0, 0)
    else (0, acc + b.toNat % 128 * 128 ^ i, i + 1)
def readNum (l : List UInt8) : Nat × Nat × Nat := rd 10 0 0 l

theorem toNat_of {k : Nat} (h : k < 256) : (UInt8.ofNat k).toNat = k := by simp [UInt8.toNat_ofNat_of_lt', h]
theorem ofNat_of (b : UInt8) {k : Nat} (h : b.toNat = k) : UInt8.ofNat k = b := by subst h; simp

/-- What was written is read. -/
theorem rd_num (f : Nat) : ∀ (i acc m : Nat) (l : List UInt8), 0 < f → f + i = 10 → (0 < m ∨ i = 0) → m * 128 ^ i < 18446744073709551616 →
    rd f i acc (numL m ++ l) = (0, acc + m * 128 ^ i, i + (numL m).length) := by
  induction f with
  | zero => intro i acc m l h; omega
  | succ f ih =>
    intro i acc m l _ hf hm hlt
    by_cases h : m < 128
    · rw [numL_small h]
      have e : (UInt8.ofNat m).toNat = m := toNat_of (by omega)
      simp only [List.cons_append, List.nil_append, rd, e]
      rw [Nat.mod_eq_of_lt h]
      have c1 : ¬ (f = 0 ∧ 1 < m) := by
        rintro ⟨rfl, hm1⟩
        obtain rfl : i = 9 := by omega
        have : 2 * 128 ^ 9 ≤ m * 128 ^ 9 := Nat.mul_le_mul_right _ hm1
        omega
      rw [if_neg c1, if_neg (by omega), if_neg (by omega)]
      rfl
    · rw [numL_big h]
      have e : (UInt8.ofNat (m % 128 + 128)).toNat = m % 128 + 128 := toNat_of (by omega)
      simp only [List.cons_append, rd, e]
      have em : (m % 128 + 128) % 128 = m % 128 := by omega
      rw [em]
      have hf0 : f ≠ 0 := by
        rintro rfl
        obtain rfl : i = 9 := by omega
        have : 128 * 128 ^ 9 ≤ m * 128 ^ 9 := Nat.mul_le_mul_right _ (by omega)
        omega
      have hp : m / 128 * 128 ^ (i + 1) + m % 128 * 128 ^ i = m * 128 ^ i := by
        have hd := Nat.div_add_mod m 128
        rw [Nat.pow_succ, ← Nat.mul_assoc, Nat.mul_comm (m / 128 * 128 ^ i) 128, ← Nat.mul_assoc, ← Nat.add_mul, hd]
      rw [if_neg (by omega), if_pos (by omega), ih (i + 1) _ (m / 128) l (by omega) (by omega) (by omega) (by omega)]
      simp only [List.length_cons]
      congr 1
      congr 1 <;> omega
theorem readNum_num (n : Nat) (l : List UInt8) (h : n < 18446744073709551616) : readNum (numL n ++ l) = (0, n, (numL n).length) := by
  have := rd_num 10 0 0 n l (by omega) (by omega) (.inr rfl) (by omega)
  simpa [readNum] using this

/-- What is read was written so. -/
theorem rd_inv (f : Nat) : ∀ (i acc : Nat) (l : List UInt8) (n s : Nat), f + i = 10 → rd f i acc l = (0, n, s) →
    ∃ m r, l = numL m ++ r ∧ n = acc + m * 128 ^ i ∧ s = i + (numL m).length ∧ (0 < m ∨ i = 0) ∧ m * 128 ^ i < 18446744073709551616 := by
  induction f with
  | zero => intro i acc l n s _ h; simp [rd] at h
  | succ f ih =>
    intro i acc l n s hf h
    cases l with
    | nil => simp [rd] at h
    | cons b l =>
      have hb := b.toNat_lt
      simp only [rd] at h
      split at h
      · simp at h
      · rename_i c1
        split at h
        · rename_i c2
          obtain ⟨m, r, rfl, rfl, rfl, hm, hlt⟩ := ih (i + 1) _ l n s (by omega) h
          have hm0 : 0 < m := by omega
          refine ⟨m * 128 + b.toNat % 128, r, ?_, ?_, ?_, .inl (by omega), ?_⟩
          · rw [numL_big (n := m * 128 + b.toNat % 128) (by omega)]
            have e1 : (m * 128 + b.toNat % 128) / 128 = m := by omega
            have e2 : (m * 128 + b.toNat % 128) % 128 + 128 = b.toNat := by omega
            rw [e1, e2, ofNat_of b rfl]
            rfl
          · rw [Nat.add_mul, Nat.pow_succ, Nat.mul_assoc m 128, Nat.mul_comm 128]; omega
          · rw [numL_big (n := m * 128 + b.toNat % 128) (by omega)]
            have e1 : (m * 128 + b.toNat % 128) / 128 = m := by omega
            rw [e1, List.length_cons]
            omega
          · -- i + 1 ≤ 9 : the bound of one more group
            rw [Nat.pow_succ, ← Nat.mul_assoc, Nat.mul_right_comm] at hlt
            have h9 : i ≤ 8 := by
              rcases Nat.lt_or_ge i 9 with h | h
              · omega
              · have : f = 0 := by omega
                subst this
                simp [rd] at h
            have hx : b.toNat % 128 < 128 := Nat.mod_lt _ (by omega)
            have hq : (m * 128 + b.toNat % 128) * 128 ^ i < (m + 1) * 128 * 128 ^ i := Nat.mul_lt_mul_of_pos_right (by omega) (Nat.pow_pos (by omega))
            have h2 : 18446744073709551616 = 2 ^ (64 - 7 * (i + 1)) * (128 * 128 ^ i) := by
              rw [Nat.mul_comm 128, ← Nat.pow_succ, show (128 : Nat) = 2 ^ 7 from rfl, ← Nat.pow_mul, ← Nat.pow_add, show 64 - 7 * (i + 1) + 7 * (i + 1) = 64 by omega]
            rw [h2, Nat.mul_assoc] at hlt
            have h3 : m < 2 ^ (64 - 7 * (i + 1)) := Nat.lt_of_mul_lt_mul_right hlt
            have h4 : (m + 1) * 128 * 128 ^ i ≤ 2 ^ (64 - 7 * (i + 1)) * (128 * 128 ^ i) := by rw [Nat.mul_assoc]; exact Nat.mul_le_mul_right _ h3
            omega
        · rename_i c2
          split at h
          · simp at h
          · rename_i c3
            simp only [Prod.mk.injEq, true_and] at h
            obtain ⟨rfl, rfl⟩ := h
            have e : b.toNat % 128 = b.toNat := by omega
            rw [e] at c1 c3 ⊢
            refine ⟨b.toNat, l, ?_, rfl, ?_, by omega, ?_⟩
            · rw [numL_small (by omega), ofNat_of b rfl]; rfl
            · rw [numL_small (by omega)]; rfl
            · rcases Nat.lt_or_ge i 9 with h9 | h9
              · have h5 : 128 ^ i ≤ 128 ^ 8 := Nat.pow_le_pow_right (by omega) (by omega)
                have : b.toNat * 128 ^ i ≤ 128 * 128 ^ 8 := Nat.mul_le_mul (by omega) h5
                omega
              · obtain rfl : i = 9 := by omega
                have : b.toNat ≤ 1 := by omega
                have : b.toNat * 128 ^ 9 ≤ 1 * 128 ^ 9 := Nat.mul_le_mul_right _ this
                omega
theorem readNum_inv {l : List UInt8} {n s : Nat} (h : readNum l = (0, n, s)) : l = numL n ++ l.drop s ∧ s = (numL n).length ∧ n < 18446744073709551616 := by
  obtain ⟨m, r, rfl, hn, hs, _, hlt⟩ := rd_inv 10 0 0 l n s (by omega) h
  obtain rfl : n = m := by simpa using hn
  have hs' : s = (numL n).length := by simpa using hs
  subst hs'
  exact ⟨by simp, rfl, by simpa using hlt⟩

/-! ### A reader: the bytes that are left, the fault, whether a number was too great -/
abbrev St := List UInt8 × Nat × Bool
def raw (s : St) : Nat × St := if s.2.1 = 0 then (if (readNum s.1).1 = 0 then ((readNum s.1).2.1, (s.1.drop (readNum s.1).2.2, 0, s.2.2)) else (0, (s.1, (readNum s.1).1, s.2.2))) else (0, s)
def stp (s : St) : Nat × St := if 4611686018427387904 < (raw s).1 then (0, ((raw s).2.1, (raw s).2.2.1, true)) else raw s
def stn : Nat → St → St
  | 0, s => s
  | k + 1, s => (stp (stn k s)).2
def vl (s : St) (k : Nat) : Nat := (stp (stn k s)).1

theorem raw_fault {s : St} (h : s.2.1 ≠ 0) : raw s = (0, s) := by unfold raw; rw [if_neg h]
theorem raw_lt (s : St) : (raw s).1 < 18446744073709551616 := by
  unfold raw
  split
  · split
    · rename_i h
      exact (readNum_inv (l := s.1) (n := (readNum s.1).2.1) (s := (readNum s.1).2.2) (by rw [← h])).2.2
    · show 0 < _; omega
  · show 0 < _; omega
theorem stp_fault {s : St} (h : s.2.1 ≠ 0) : stp s = (0, s) := by unfold stp; rw [raw_fault h]; rfl
theorem stn_fault {s : St} (h : s.2.1 ≠ 0) (k : Nat) : stn k s = s := by
  induction k with
  | zero => rfl
  | succ k ih => show (stp (stn k s)).2 = s; rw [ih, stp_fault h]
theorem stp_le (s : St) : (stp s).1 ≤ 4611686018427387904 := by
  unfold stp
  split
  · exact Nat.zero_le _
  · omega
theorem vl_le (s : St) (k : Nat) : vl s k ≤ 4611686018427387904 := stp_le _
theorem stn_add (a b : Nat) (s : St) : stn (a + b) s = stn b (stn a s) := by
  induction b with
  | zero => rfl
  | succ b ih => show (stp (stn (a + b) s)).2 = (stp (stn b (stn a s))).2; rw [ih]
theorem vl_add (a k : Nat) (s : St) : vl s (a + k) = vl (stn a s) k := by unfold vl; rw [stn_add]
/-- A number that may stand there. -/
theorem stp_num (z : Nat) (l : List UInt8) (g : Bool) (h : z ≤ 4611686018427387904) : stp (numL z ++ l, 0, g) = (z, (l, 0, g)) := by
  have e := readNum_num z l (by omega)
  have er : raw (numL z ++ l, 0, g) = (z, (l, 0, g)) := by
    unfold raw
    simp only [e]
    simp
  unfold stp
  rw [er, if_neg (by show ¬ 4611686018427387904 < z; omega)]
/-- What stands behind no fault, and no number too great. -/
theorem stp_inv {s : St} (hf : (stp s).2.2.1 = 0) (hg : (stp s).2.2.2 = false) : s.2.1 = 0 ∧ s.2.2 = false ∧ s.1 = numL (stp s).1 ++ (stp s).2.1 := by
  unfold stp at *
  split at hf
  · rename_i h; rw [if_pos h] at hg; cases hg
  · rename_i h
    rw [if_neg h] at hg ⊢
    unfold raw at *
    split at hf
    · rename_i h0
      rw [if_pos h0] at hg ⊢
      split at hf
      · rename_i h1
        rw [if_pos h1] at hg ⊢
        exact ⟨h0, hg, (readNum_inv (l := s.1) (n := (readNum s.1).2.1) (s := (readNum s.1).2.2) (by rw [← h1])).1⟩
      · rename_i h1; exact absurd hf h1
    · rename_i h0; exact absurd hf h0

/-- The bytes of a row of numbers. -/
def bts (f : Nat → Nat) (k : Nat) : List UInt8 := (List.range k).flatMap fun i => numL (f i)
theorem bts_succ (f : Nat → Nat) (k : Nat) : bts f (k + 1) = bts f k ++ numL (f k) := by simp [bts, List.range_succ]
theorem bts_add (f : Nat → Nat) (a b : Nat) : bts f (a + b) = bts f a ++ bts (fun i => f (a + i)) b := by
  induction b with
  | zero => simp [bts]
  | succ b ih => rw [← Nat.add_assoc, bts_succ, ih, bts_succ, List.append_assoc]
theorem bts_congr {f g : Nat → Nat} {k : Nat} (h : ∀ i, i < k → f i = g i) : bts f k = bts g k := by
  induction k with
  | zero => rfl
  | succ k ih => rw [bts_succ, bts_succ, ih (fun i hi => h i (by omega)), h k (by omega)]
/-- Rows of c numbers each. -/
def bts2 (G : Nat → Nat → Nat) (n c : Nat) : List UInt8 := (List.range n).flatMap fun i => bts (G i) c
theorem bts2_succ (G : Nat → Nat → Nat) (n c : Nat) : bts2 G (n + 1) c = bts2 G n c ++ bts (G n) c := by simp [bts2, List.range_succ]
theorem bts2_flat (f : Nat → Nat) (n c : Nat) : bts f (c * n) = bts2 (fun i j => f (c * i + j)) n c := by
  induction n with
  | zero => simp [bts, bts2]
  | succ n ih => rw [Nat.mul_succ, bts_add, ih, bts2_succ]
theorem bts2_congr {G H : Nat → Nat → Nat} {n c : Nat} (h : ∀ i, i < n → ∀ j, j < c → G i j = H i j) : bts2 G n c = bts2 H n c := by
  induction n with
  | zero => rfl
  | succ n ih => rw [bts2_succ, bts2_succ, ih (fun i hi => h i (by omega)), bts_congr (h n (by omega))]
theorem bts_len (f : Nat → Nat) (k : Nat) (h : ∀ i, i < k → f i < 18446744073709551616) : (bts f k).length ≤ 10 * k := by
  induction k with
  | zero => simp [bts]
  | succ k ih =>
    rw [bts_succ, List.length_append]
    have := ih (fun i hi => h i (by omega))
    have := numL_len (f k) 9 (Nat.lt_trans (h k (by omega)) (by decide))
    omega

/-- Rows that were written are read. -/
theorem stn_bts (f : Nat → Nat) (k : Nat) (l : List UInt8) (g : Bool) (h : ∀ i, i < k → f i ≤ 4611686018427387904) : stn k (bts f k ++ l, 0, g) = (l, 0, g) ∧ ∀ i, i < k → vl (bts f k ++ l, 0, g) i = f i := by
  induction k generalizing l with
  | zero => exact ⟨by simp [bts, stn], fun i hi => absurd hi (Nat.not_lt_zero _)⟩
  | succ k ih =>
    rw [bts_succ, List.append_assoc]
    obtain ⟨h1, h2⟩ := ih (numL (f k) ++ l) (fun i hi => h i (by omega))
    have h3 := stp_num (f k) l g (h k (by omega))
    refine ⟨?_, fun i hi => ?_⟩
    · show (stp (stn k _)).2 = _
      rw [h1, h3]
    · rcases Nat.lt_or_ge i k with hlt | hge
      · exact h2 i hlt
      · obtain rfl : i = k := by omega
        unfold vl
        rw [h1, h3]
/-- What was read stands so. -/
theorem stn_inv (s : St) (k : Nat) (hf : (stn k s).2.1 = 0) (hg : (stn k s).2.2 = false) : s.2.1 = 0 ∧ s.2.2 = false ∧ s.1 = bts (vl s) k ++ (stn k s).1 := by
  induction k with
  | zero => exact ⟨hf, hg, by simp [bts, stn]⟩
  | succ k ih =>
    obtain ⟨h1, h2, h3⟩ := stp_inv (s := stn k s) hf hg
    obtain ⟨a, b, c⟩ := ih h1 h2
    refine ⟨a, b, ?_⟩
    rw [bts_succ, List.append_assoc]
    show s.1 = bts (vl s) k ++ (numL (stp (stn k s)).1 ++ (stp (stn k s)).2.1)
    rw [← h3]
    exact c

/-! ### A configuration's bytes -/
def encB (n : Nat) (S : Nat → Nat → Nat) (m : Nat) (R : Nat → Nat → Nat) (x : Nat → Nat) : List UInt8 := numL n ++ bts2 S n 16 ++ numL m ++ bts2 R m 2 ++ bts x 6
/-- Its numbers, one behind the other. -/
def sq (n : Nat) (S : Nat → Nat → Nat) (m : Nat) (R : Nat → Nat → Nat) (x : Nat → Nat) (k : Nat) : Nat :=
  if k = 0 then n else if k < 1 + 16 * n then S ((k - 1) / 16) ((k - 1) % 16) else if k = 1 + 16 * n then m
  else if k < 1 + 16 * n + 1 + 2 * m then R ((k - (1 + 16 * n + 1)) / 2) ((k - (1 + 16 * n + 1)) % 2) else x (k - (1 + 16 * n + 1 + 2 * m))
section
variable (n : Nat) (S : Nat → Nat → Nat) (m : Nat) (R : Nat → Nat → Nat) (x : Nat → Nat)
theorem sq_n : sq n S m R x 0 = n := rfl
theorem sq_S {i j : Nat} (hi : i < n) (hj : j < 16) : sq n S m R x (1 + (16 * i + j)) = S i j := by
  unfold sq
  rw [if_neg (by omega), if_pos (by omega), show (1 + (16 * i + j) - 1) / 16 = i by omega, show (1 + (16 * i + j) - 1) % 16 = j by omega]
theorem sq_m : sq n S m R x (1 + 16 * n) = m := by
  unfold sq
  rw [if_neg (by omega), if_neg (by omega), if_pos rfl]
theorem sq_R {i j : Nat} (hi : i < m) (hj : j < 2) : sq n S m R x (1 + 16 * n + 1 + (2 * i + j)) = R i j := by
  unfold sq
  rw [if_neg (by omega), if_neg (by omega), if_neg (by omega), if_pos (by omega), show (1 + 16 * n + 1 + (2 * i + j) - (1 + 16 * n + 1)) / 2 = i by omega, show (1 + 16 * n + 1 + (2 * i + j) - (1 + 16 * n + 1)) % 2 = j by omega]
theorem sq_x (j : Nat) : sq n S m R x (1 + 16 * n + 1 + 2 * m + j) = x j := by
  unfold sq
  rw [if_neg (by omega), if_neg (by omega), if_neg (by omega), if_neg (by omega), show 1 + 16 * n + 1 + 2 * m + j - (1 + 16 * n + 1 + 2 * m) = j by omega]
theorem bts_one (f : Nat → Nat) : bts f 1 = numL (f 0) := by rw [show 1 = 0 + 1 from rfl, bts_succ]; rfl
/-- Any stream's bytes, parted so. -/
theorem bts_parts (f : Nat → Nat) : bts f (1 + 16 * n + 1 + 2 * m + 6) = encB (f 0) (fun i j => f (1 + (16 * i + j))) (f (1 + 16 * n)) (fun i j => f (1 + 16 * n + 1 + (2 * i + j))) (fun j => f (1 + 16 * n + 1 + 2 * m + j)) ∨ ¬ (n = f 0 ∧ m = f (1 + 16 * n)) := by
  by_cases h : n = f 0 ∧ m = f (1 + 16 * n)
  · refine .inl ?_
    obtain ⟨h1, h2⟩ := h
    unfold encB
    rw [bts_add, bts_add, bts_add, bts_add, bts_one, bts_one, bts2_flat, bts2_flat, Nat.add_zero, ← h1, ← h2]
  · exact .inr h
theorem encB_sq : encB n S m R x = bts (sq n S m R x) (1 + 16 * n + 1 + 2 * m + 6) := by
  rcases bts_parts n m (sq n S m R x) with h | h
  · rw [h, sq_n, sq_m]
    unfold encB
    rw [bts2_congr (G := S) (fun i hi j hj => (sq_S n S m R x hi hj).symm), bts2_congr (G := R) (fun i hi j hj => (sq_R n S m R x hi hj).symm), bts_congr (f := x) (fun j _ => (sq_x n S m R x j).symm)]
  · exact absurd ⟨(sq_n n S m R x).symm, (sq_m n S m R x).symm⟩ h
end
/-- What a reader of a configuration has read. -/
def dS (s : St) (i j : Nat) : Nat := vl s (1 + (16 * i + j))
def dM (s : St) (n : Nat) : Nat := vl s (1 + 16 * n)
def dR (s : St) (n i j : Nat) : Nat := vl s (1 + 16 * n + 1 + (2 * i + j))
def dX (s : St) (n m j : Nat) : Nat := vl s (1 + 16 * n + 1 + 2 * m + j)
def dEnd (s : St) (n m : Nat) : St := stn (1 + 16 * n + 1 + 2 * m + 6) s
theorem enc_read {l : List UInt8} {n m : Nat} (hn : n = vl (l, 0, false) 0) (hm : m = dM (l, 0, false) n) (he : dEnd (l, 0, false) n m = ([], 0, false)) :
    l = encB n (dS (l, 0, false)) m (dR (l, 0, false) n) (dX (l, 0, false) n m) := by
  unfold dEnd at he
  obtain ⟨_, _, h⟩ := stn_inv (l, 0, false) (1 + 16 * n + 1 + 2 * m + 6) (by rw [he]) (by rw [he])
  have e : (stn (1 + 16 * n + 1 + 2 * m + 6) (l, 0, false)).1 = [] := by rw [he]
  rw [e, List.append_nil] at h
  rcases bts_parts n m (vl (l, 0, false)) with hp | hp
  · have h' : l = bts (vl (l, 0, false)) (1 + 16 * n + 1 + 2 * m + 6) := h
    rw [hp, ← hn] at h'
    have hm' : m = vl (l, 0, false) (1 + 16 * n) := hm
    rw [← hm'] at h'
    exact h'
  · exact absurd ⟨hn, hm⟩ hp
theorem read_enc (n : Nat) (S : Nat → Nat → Nat) (m : Nat) (R : Nat → Nat → Nat) (x : Nat → Nat) (hn : n ≤ 4611686018427387904) (hm : m ≤ 4611686018427387904)
    (hS : ∀ i, i < n → ∀ j, j < 16 → S i j ≤ 4611686018427387904) (hR : ∀ i, i < m → ∀ j, j < 2 → R i j ≤ 4611686018427387904) (hx : ∀ j, j < 6 → x j ≤ 4611686018427387904) :
    vl (encB n S m R x, 0, false) 0 = n ∧ (∀ i, i < n → ∀ j, j < 16 → dS (encB n S m R x, 0, false) i j = S i j) ∧ dM (encB n S m R x, 0, false) n = m ∧ (∀ i, i < m → ∀ j, j < 2 → dR (encB n S m R x, 0, false) n i j = R i j) ∧
    (∀ j, j < 6 → dX (encB n S m R x, 0, false) n m j = x j) ∧ dEnd (encB n S m R x, 0, false) n m = ([], 0, false) ∧ (raw (encB n S m R x, 0, false)).1 = n ∧ (raw (stn (1 + 16 * n) (encB n S m R x, 0, false))).1 = m := by
  have hb : ∀ k, k < 1 + 16 * n + 1 + 2 * m + 6 → sq n S m R x k ≤ 4611686018427387904 := fun k hk => by
    unfold sq
    split
    · exact hn
    · split
      · exact hS _ (by omega) _ (by omega)
      · split
        · exact hm
        · split
          · exact hR _ (by omega) _ (by omega)
          · exact hx _ (by omega)
  obtain ⟨h1, h2⟩ := stn_bts (sq n S m R x) (1 + 16 * n + 1 + 2 * m + 6) [] false hb
  rw [List.append_nil, ← encB_sq] at h1 h2
  have hraw : ∀ s : St, (stp s).2.2.2 = false → (raw s).1 = (stp s).1 := fun s hs => by
    unfold stp at hs ⊢
    split
    · rename_i h; rw [if_pos h] at hs; cases hs
    · rfl
  have hpre : ∀ k, k ≤ 1 + 16 * n + 1 + 2 * m + 6 → (stn k (encB n S m R x, 0, false)).2.2 = false := fun k hk => by
    obtain ⟨d, hd⟩ : ∃ d, 1 + 16 * n + 1 + 2 * m + 6 = k + d := ⟨1 + 16 * n + 1 + 2 * m + 6 - k, by omega⟩
    rw [hd, stn_add] at h1
    exact (stn_inv _ d (by rw [h1]) (by rw [h1])).2.1
  refine ⟨?_, fun i hi j hj => ?_, ?_, fun i hi j hj => ?_, fun j hj => ?_, h1, ?_, ?_⟩
  · rw [h2 0 (by omega), sq_n]
  · unfold dS; rw [h2 _ (by omega), sq_S n S m R x hi hj]
  · unfold dM; rw [h2 _ (by omega), sq_m]
  · unfold dR; rw [h2 _ (by omega), sq_R n S m R x hi hj]
  · unfold dX; rw [h2 _ (by omega), sq_x]
  · exact (hraw (encB n S m R x, 0, false) (hpre 1 (by omega))).trans ((h2 0 (by omega)).trans (sq_n n S m R x))
  · exact (hraw (stn (1 + 16 * n) (encB n S m R x, 0, false)) (hpre (1 + 16 * n + 1) (by omega))).trans ((h2 (1 + 16 * n) (by omega)).trans (sq_m n S m R x))
end Go.Proofs.Ythhkcckikmldcaa
