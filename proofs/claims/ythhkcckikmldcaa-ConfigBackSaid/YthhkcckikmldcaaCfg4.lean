/-
  Config: contracts of the rules of Check, and of Check. (Written by gen_cfg4.py, a program of this session's own.)
-/
import Derived.Test.YthhkcckikmldcaaCfg3
set_option linter.unusedVariables false
set_option linter.unusedSimpArgs false
namespace Go.Proofs.Ythhkcckikmldcaa
open Go.RowKit

/-- What is behind a configuration's two lists, in its box. -/
def TailAt (w : World) (C : Nat) (x : Nat → Int) : Prop := ∀ j, j < 6 → w.cell? ⟨C, j + 2, none⟩ = some (.int .i64 (x j))
theorem TailAt.below {w w1 : World} {C : Nat} {x : Nat → Int} (h : TailAt w C x) (hb : Below w.heap.size w w1) : TailAt w1 C x := fun j hj => bcell hb (h j hj)
theorem tailAt_new (w : World) (v0 v1 : Value) (x : Nat → Int) : TailAt (w.alloc (.cells #[v0, v1, .int .i64 (x 0), .int .i64 (x 1), .int .i64 (x 2), .int .i64 (x 3), .int .i64 (x 4), .int .i64 (x 5)] 35)) w.heap.size x := by
  intro j hj
  refine cell_new_at w _ 35 _ _ ?_
  have : j = 0 ∨ j = 1 ∨ j = 2 ∨ j = 3 ∨ j = 4 ∨ j = 5 := by omega
  rcases this with rfl | rfl | rfl | rfl | rfl | rfl <;> rfl

def cr1 (x : Nat → Int) : Bool := inAll 1 1099511627776 [x 0]
def cr2 (x : Nat → Int) : Bool := inAll 1 9999 [x 1, x 2, x 3] && (decide (x 1 < x 2) && decide (x 2 < x 3))
def cr3 (x : Nat → Int) : Bool := inAll 1 1099511627776 [x 4, x 5]
def tailRules (x : Nat → Int) : List RuleAt := [⟨91, 9, cr1 x⟩, ⟨89, 9, cr2 x⟩, ⟨92, 9, cr3 x⟩]
def tailF (x : Nat → Int) : Int := firstF (tailRules x)

set_option maxHeartbeats 1000000 in
theorem check2_any (C : Nat) (x : Nat → Int) (w : World) (h : TailAt w C x) :
    Calls Try.prog 91 #[.pointer (some ⟨C, 0, none⟩)] w fun e w' => e = .returned (.bool (cr1 x)) ∧ Below w.heap.size w w' := by
  have h0 := h 0 (by omega)
  have HC := Lib.hid (all_any 1 1099511627776 [x 0] 1 w.heap.size (w.alloc (.cells #[.int .i64 (x 0)] 2)) rfl (by omega) (heap_new _ _))
  clear h
  unfold cr1
  go_enter Try.func91, Try.ntmps91
  go_wp2_with fail
  refine (HC.out).mono ?_
  rintro e w' ⟨rfl, hb⟩
  go_wp2_with fail
  go_ret
  exact ⟨rfl, below_all ((Below.refl _ _).alloc (Nat.le_refl _) _) hb⟩
set_option maxHeartbeats 1000000 in
theorem check3_any (C : Nat) (x : Nat → Int) (w : World) (h : TailAt w C x) :
    Calls Try.prog 92 #[.pointer (some ⟨C, 0, none⟩)] w fun e w' => e = .returned (.bool (cr3 x)) ∧ Below w.heap.size w w' := by
  have h0 := h 4 (by omega)
  have h1 := h 5 (by omega)
  have HC := Lib.hid (all_any 1 1099511627776 [x 4, x 5] 2 w.heap.size (w.alloc (.cells #[.int .i64 (x 4), .int .i64 (x 5)] 2)) rfl (by omega) (heap_new _ _))
  clear h
  unfold cr3
  go_enter Try.func92, Try.ntmps92
  go_wp2_with fail
  refine (HC.out).mono ?_
  rintro e w' ⟨rfl, hb⟩
  go_wp2_with fail
  go_ret
  exact ⟨rfl, below_all ((Below.refl _ _).alloc (Nat.le_refl _) _) hb⟩
set_option maxHeartbeats 1000000 in
theorem check1_any (C : Nat) (x : Nat → Int) (w : World) (h : TailAt w C x) :
    Calls Try.prog 89 #[.pointer (some ⟨C, 0, none⟩)] w fun e w' => e = .returned (.bool (cr2 x)) ∧ Below w.heap.size w w' := by
  have h1 := h 1 (by omega)
  have h2 := h 2 (by omega)
  have h3 := h 3 (by omega)
  have HC := Lib.hid (all_any 1 9999 [x 1, x 2, x 3] 3 w.heap.size (w.alloc (.cells #[.int .i64 (x 1), .int .i64 (x 2), .int .i64 (x 3)] 2)) rfl (by omega) (heap_new _ _))
  have HB := Lib.hid (fun W (hb : Below w.heap.size w W) => And.intro (bcell hb h1) (And.intro (bcell hb h2) (bcell hb h3)))
  clear h
  unfold cr2
  generalize x 1 = x1 at h1 HC HB
  generalize x 2 = x2 at h2 HC HB
  generalize x 3 = x3 at h3 HC HB
  cases hx : inAll 1 9999 [x1, x2, x3]
  · rw [hx] at HC
    clear hx
    go_enter Try.func89, Try.ntmps89
    go_wp2_with fail
    refine (HC.out).mono ?_
    rintro e w' ⟨rfl, hb⟩
    go_wp2_with fail
    go_ret
    exact ⟨rfl, below_all ((Below.refl _ _).alloc (Nat.le_refl _) _) hb⟩
  · rw [hx] at HC
    clear hx
    by_cases c1 : x1 < x2
    · have E := Lib.hid (show (true && (decide (x1 < x2) && decide (x2 < x3))) = decide (x2 < x3) by rw [decide_eq_true c1]; simp)
      go_enter Try.func89, Try.ntmps89
      go_wp2_with fail
      refine (HC.out).mono ?_
      rintro e w' ⟨rfl, hb⟩
      obtain ⟨q1, q2, q3⟩ := HB.out _ (below_all ((Below.refl _ _).alloc (Nat.le_refl _) _) hb)
      go_wp2_with fail
      go_ret
      exact ⟨ret_bool (by rw [decide_eq_true c1]; simp), below_all ((Below.refl _ _).alloc (Nat.le_refl _) _) hb⟩
    · go_enter Try.func89, Try.ntmps89
      go_wp2_with fail
      refine (HC.out).mono ?_
      rintro e w' ⟨rfl, hb⟩
      obtain ⟨q1, q2, q3⟩ := HB.out _ (below_all ((Below.refl _ _).alloc (Nat.le_refl _) _) hb)
      go_wp2_with fail
      go_ret
      exact ⟨ret_bool (by rw [decide_eq_false (by omega)]; simp), below_all ((Below.refl _ _).alloc (Nat.le_refl _) _) hb⟩

theorem enters_tail (x : Nat → Int) : ∀ r, r ∈ tailRules x → ∀ args w, (callFunc r.g args).run Try.prog w = .ok (.enter r.g args) w := by
  intro r hr
  simp only [tailRules, List.mem_cons, List.not_mem_nil, or_false] at hr
  rcases hr with rfl | rfl | rfl
  · exact enters_of Try.func91 (by kernel_rfl) rfl
  · exact enters_of Try.func89 (by kernel_rfl) rfl
  · exact enters_of Try.func92 (by kernel_rfl) rfl
theorem calls_tail (C : Nat) (x : Nat → Int) (w : World) (h : TailAt w C x) :
    ∀ r, r ∈ tailRules x → ∀ W, Below w.heap.size w W → Calls Try.prog r.g #[.pointer (some ⟨C, 0, none⟩)] W fun e w' => e = .returned (.bool r.p) ∧ Below W.heap.size W w' := by
  intro r hr W hb
  simp only [tailRules, List.mem_cons, List.not_mem_nil, or_false] at hr
  rcases hr with rfl | rfl | rfl
  · exact check2_any C x W (h.below hb)
  · exact check1_any C x W (h.below hb)
  · exact check3_any C x W (h.below hb)

/-! ### Check -/
/-- The first symbol with a fault. -/
def symI (S : Nat → Nat → Int) (n : Nat) : Nat := first (fun i => symF (S i) != 0) n
def chkF (n : Nat) (S : Nat → Nat → Int) (m : Nat) (R : Nat → Nat → Int) (x : Nat → Int) : Int :=
  if inB 1 8 n then (if symI S n < n then symF (S (symI S n)) else if tabF m R = 0 then tailF x else tabF m R) else 9
def chkI (n : Nat) (S : Nat → Nat → Int) (m : Nat) (R : Nat → Nat → Int) (x : Nat → Int) : Int :=
  if inB 1 8 n then (if symI S n < n then (symI S n : Int) else if tabF m R = 0 then 0 else tabI m R) else 0
section
variable {n : Nat} {S : Nat → Nat → Int} {m : Nat} {R : Nat → Nat → Int} {x : Nat → Int}
theorem chk_long (h : inB 1 8 n = false) : chkF n S m R x = 9 ∧ chkI n S m R x = 0 := by simp [chkF, chkI, h]
theorem chk_at {k : Nat} (h : inB 1 8 n = true) (hk : k < n) (h0 : ∀ j, j < k → symF (S j) = 0) (h1 : symF (S k) ≠ 0) : chkF n S m R x = symF (S k) ∧ chkI n S m R x = k := by
  have e : symI S n = k := first_eq (by omega) (fun j hj => by simp [h0 j hj]) (fun _ => by simpa using h1)
  simp [chkF, chkI, h, e, hk]
theorem symI_ok (h0 : ∀ j, j < n → symF (S j) = 0) : symI S n = n := first_eq (Nat.le_refl _) (fun j hj => by simp [h0 j hj]) (fun h => absurd h (Nat.lt_irrefl _))
theorem chk_tab (h : inB 1 8 n = true) (h0 : ∀ j, j < n → symF (S j) = 0) (h1 : tabF m R ≠ 0) : chkF n S m R x = tabF m R ∧ chkI n S m R x = tabI m R := by
  simp [chkF, chkI, h, symI_ok h0, h1]
theorem chk_tail (h : inB 1 8 n = true) (h0 : ∀ j, j < n → symF (S j) = 0) (h1 : tabF m R = 0) : chkF n S m R x = tailF x ∧ chkI n S m R x = 0 := by
  simp [chkF, chkI, h, symI_ok h0, h1]
end

/-- A configuration whose lists are read: what each walk over one asks. -/
structure CfgIn (w : World) (A : Option Addr) (n c : Nat) (B : Option Addr) (m d : Nat) (S R : Nat → Nat → Int) (x : Nat → Int) : Prop where
  syms : Tab w A n 16 S
  rows : Tab w B m 2 R
  nc : n ≤ c
  cm : c ≤ 9223372036854775807
  md : m ≤ d
  dm : d ≤ 9223372036854775807
  sOk : ∀ i, i < n → ∀ j, j < 16 → i64Ok (S i j)
  rOk : ∀ i, i < m → ∀ j, j < 2 → i64Ok (R i j)
  xOk : ∀ j, j < 6 → i64Ok (x j)
theorem CfgIn.below {w w1 : World} {A : Option Addr} {n c : Nat} {B : Option Addr} {m d : Nat} {S R : Nat → Nat → Int} {x : Nat → Int} (h : CfgIn w A n c B m d S R x) (hb : Below w.heap.size w w1) : CfgIn w1 A n c B m d S R x :=
  ⟨h.syms.below hb, h.rows.below hb, h.nc, h.cm, h.md, h.dm, h.sOk, h.rOk, h.xOk⟩

set_option maxHeartbeats 4000000 in
theorem check_any (A : Option Addr) (n c : Nat) (B : Option Addr) (m d : Nat) (S R : Nat → Nat → Int) (x : Nat → Int) (w : World) (h : CfgIn w A n c B m d S R x) :
    Calls Try.prog 33 #[.agg #[.slice A n c, .slice B m d, .int .i64 (x 0), .int .i64 (x 1), .int .i64 (x 2), .int .i64 (x 3), .int .i64 (x 4), .int .i64 (x 5)]] w fun e w' => e = .returned (.tuple #[.int .i64 (chkF n S m R x), .int .i64 (chkI n S m R x)]) ∧ Below w.heap.size w w' := by
  have hnc := h.nc
  have hcm := h.cm
  have HA := Lib.hid (all_any 1 8 [(n : Int)] 1 (w.heap.size + 1) ((w.alloc (.cells #[.slice A n c, .slice B m d, .int .i64 (x 0), .int .i64 (x 1), .int .i64 (x 2), .int .i64 (x 3), .int .i64 (x 4), .int .i64 (x 5)] 35)).alloc (.cells #[.int .i64 (n : Int)] 2)) rfl (by omega) (heap_new2 _ _ _))
  have hin : inAll 1 8 [(n : Int)] = inB 1 8 n := by simp [inAll]
  rw [hin] at HA
  cases hl : inB 1 8 (n : Int)
  · rw [hl] at HA
    rw [(chk_long hl).1, (chk_long hl).2]
    clear hl hin h
    go_enter Try.func33, Try.ntmps33
    go_wp2_with fail
    refine (HA.out).mono ?_
    rintro e w1 ⟨rfl, hb⟩
    go_wp2_with fail
    go_ret2
    exact ⟨rfl, below_all (below_al (below_al (Below.refl _ _) _) _) hb⟩
  · rw [hl] at HA
    obtain ⟨hn1, hn2⟩ := (inB_iff _ _ _).1 hl
    obtain ⟨b, off, rfl, hc⟩ := h.syms (by omega)
    have HS := Lib.hid hc
    have HSok := Lib.hid (fun i (hi : i < n) j (hj : j < 16) => (h.sOk i hi j hj).2)
    have HT := Lib.hid (fun W (hb : Below w.heap.size w W) => table_any B m d R W (h.rows.below hb) (Nat.le_trans h.md h.dm))
    have HTa := Lib.hid (tailAt_new w (.slice (some ⟨b, off, none⟩) n c) (.slice B m d) x)
    have HL := Lib.hid hl
    obtain ⟨f, hf⟩ : ∃ f, f = chkF n S m R x := ⟨_, rfl⟩
    obtain ⟨q, hq⟩ : ∃ q, q = chkI n S m R x := ⟨_, rfl⟩
    rw [← hf, ← hq]
    have HF := Lib.hid hf
    have HQ := Lib.hid hq
    have hbox0 : (w.alloc (.cells #[.slice (some ⟨b, off, none⟩) n c, .slice B m d, .int .i64 (x 0), .int .i64 (x 1), .int .i64 (x 2), .int .i64 (x 3), .int .i64 (x 4), .int .i64 (x 5)] 35)).cell? ⟨w.heap.size, 0, none⟩ = some (.slice (some ⟨b, off, none⟩) n c) := cell_new_at w _ 35 0 _ rfl
    have hbox1 : (w.alloc (.cells #[.slice (some ⟨b, off, none⟩) n c, .slice B m d, .int .i64 (x 0), .int .i64 (x 1), .int .i64 (x 2), .int .i64 (x 3), .int .i64 (x 4), .int .i64 (x 5)] 35)).cell? ⟨w.heap.size, 1, none⟩ = some (.slice B m d) := cell_new_at w _ 35 1 _ rfl
    have HB0 := Lib.hid hbox0
    have HB1 := Lib.hid hbox1
    clear hl hin h hc hf hq hbox0 hbox1
    go_enter Try.func33, Try.ntmps33
    go_wp2_with fail
    refine (HA.out).mono ?_
    rintro e w1 ⟨rfl, hb1⟩
    have hbx : Below (w.alloc (.cells #[.slice (some ⟨b, off, none⟩) n c, .slice B m d, .int .i64 (x 0), .int .i64 (x 1), .int .i64 (x 2), .int .i64 (x 3), .int .i64 (x 4), .int .i64 (x 5)] 35)).heap.size (w.alloc (.cells #[.slice (some ⟨b, off, none⟩) n c, .slice B m d, .int .i64 (x 0), .int .i64 (x 1), .int .i64 (x 2), .int .i64 (x 3), .int .i64 (x 4), .int .i64 (x 5)] 35)) w1 := below_all (below_al (Below.refl _ _) _) hb1
    have k0 := bcell hbx HB0.out
    have BX := Lib.hid hbx
    clear hb1 hbx
    go_wp2_with fail
    clear k0
    go_loopg [19] n (fun gg s19 wr => ∃ (k : Nat), k ≤ n ∧ n - k ≤ gg ∧ s19 = .int .i64 k ∧ Hid (Below (w.alloc (.cells #[.slice (some ⟨b, off, none⟩) n c, .slice B m d, .int .i64 (x 0), .int .i64 (x 1), .int .i64 (x 2), .int .i64 (x 3), .int .i64 (x 4), .int .i64 (x 5)] 35)).heap.size (w.alloc (.cells #[.slice (some ⟨b, off, none⟩) n c, .slice B m d, .int .i64 (x 0), .int .i64 (x 1), .int .i64 (x 2), .int .i64 (x 3), .int .i64 (x 4), .int .i64 (x 5)] 35)) wr) ∧ Hid (∀ j, j < k → symF (S j) = 0))
    case atStart => exact ⟨0, Nat.zero_le _, by omega, rfl, BX.out, (fun j hj => absurd hj (Nat.not_lt_zero _) : ∀ j, j < 0 → symF (S j) = 0)⟩
    case round =>
      obtain ⟨k, hk, hg, rfl, BW, I⟩ := hrel
      have BWw := Lib.hid (below_all (below_al (Below.refl w.heap.size w) (.cells #[.slice (some ⟨b, off, none⟩) n c, .slice B m d, .int .i64 (x 0), .int .i64 (x 1), .int .i64 (x 2), .int .i64 (x 3), .int .i64 (x 4), .int .i64 (x 5)] 35)) BW.out)
      by_cases hlt : k < n
      · have hlt' : (k : Int) < (n : Int) := by omega
        have s0 : wr.cell? ⟨b, off + k * 16, none⟩ = some (.int .i64 (S k 0)) := bcell BWw.out (HS.out k hlt 0 (by omega))
        have s1 := bcell BWw.out (HS.out k hlt 1 (by omega))
        have s2 := bcell BWw.out (HS.out k hlt 2 (by omega))
        have s3 := bcell BWw.out (HS.out k hlt 3 (by omega))
        have s4 := bcell BWw.out (HS.out k hlt 4 (by omega))
        have s5 := bcell BWw.out (HS.out k hlt 5 (by omega))
        have s6 := bcell BWw.out (HS.out k hlt 6 (by omega))
        have s7 := bcell BWw.out (HS.out k hlt 7 (by omega))
        have s8 := bcell BWw.out (HS.out k hlt 8 (by omega))
        have s9 := bcell BWw.out (HS.out k hlt 9 (by omega))
        have s10 := bcell BWw.out (HS.out k hlt 10 (by omega))
        have s11 := bcell BWw.out (HS.out k hlt 11 (by omega))
        have s12 := bcell BWw.out (HS.out k hlt 12 (by omega))
        have s13 := bcell BWw.out (HS.out k hlt 13 (by omega))
        have s14 := bcell BWw.out (HS.out k hlt 14 (by omega))
        have s15 := bcell BWw.out (HS.out k hlt 15 (by omega))
        have HP := Lib.hid (fun (W : World) => symbol_any (S k) W (fun j hj => HSok.out k hlt j hj))
        have hat : symF (S k) ≠ 0 → f = symF (S k) ∧ q = k := fun hne => by
          have := chk_at (m := m) (R := R) (x := x) HL.out hlt I.out hne
          rw [HF.out, HQ.out, this.1, this.2]
          exact ⟨rfl, rfl⟩
        have hst : symF (S k) = 0 → Hid (∀ j, j < k + 1 → symF (S j) = 0) := fun hz => (fun j hj => by
          by_cases e : j = k
          · subst e; exact hz
          · exact I.out j (by omega) : ∀ j, j < k + 1 → symF (S j) = 0)
        by_cases hz : symF (S k) = 0
        · have E := hst hz
          rw [hz] at HP
          clear hat hst hz
          generalize S k = sk at *
          go_wp2_with fail
          refine (HP.out _).mono ?_
          rintro e w2 ⟨rfl, hb2⟩
          have B2 := Lib.hid (below_all (below_al BW.out _) hb2)
          clear hb2
          go_wp2_with fail
          go_roundg (n - (k + 1))
          case measure => omega
          case rel => exact ⟨k + 1, by omega, by omega, by go_num, B2, E⟩
        · have E := Lib.hid (hat hz)
          have hb0 : (symF (S k) != 0) = true := by simp [hz]
          clear hat hst hz
          generalize symF (S k) = fk at HP E hb0
          generalize S k = sk at *
          go_wp2_with fail
          refine (HP.out _).mono ?_
          rintro e w2 ⟨rfl, hb2⟩
          go_wp2_with fail
          go_ret2
          refine ⟨?_, below_all (below_al BWw.out _) hb2⟩
          rw [E.out.1, E.out.2]
          rfl
      · have : k = n := by omega
        subst this
        have k1 := bcell BW.out HB1.out
        have hT := HT.out _ BWw.out
        by_cases htz : tabF m R = 0
        · have E := Lib.hid (chk_tail (x := x) HL.out I.out htz)
          rw [htz] at hT
          have HT2 := Lib.hid hT
          clear hT htz
          go_wp2_with fail
          refine (HT2.out).mono ?_
          rintro e w2 ⟨rfl, hb2⟩
          have B2 := below_all BW.out hb2
          have HR := Lib.hid (first_any (.pointer (some ⟨w.heap.size, 0, none⟩)) (tailRules x) 3 w2.heap.size (w2.alloc (.cells (ruleCells (.pointer (some ⟨w.heap.size, 0, none⟩)) (tailRules x)).toArray 141)) rfl (by omega) (heap_new _ _) (enters_tail x)
            (calls_tail w.heap.size x _ ((HTa.out.below B2).below (below_al (Below.refl _ _) _))))
          simp only [tailRules, ruleCells] at HR
          have BW2 := Lib.hid (below_all BWw.out hb2)
          clear B2 hb2
          go_wp2_with fail
          refine (HR.out).mono ?_
          rintro e w3 ⟨rfl, hb3⟩
          go_wp2_with fail
          go_ret2
          refine ⟨?_, below_all (below_al BW2.out _) hb3⟩
          rw [HF.out, HQ.out, E.out.1, E.out.2]
          rfl
        · have E := Lib.hid (chk_tab (x := x) HL.out I.out htz)
          have hb0 : (tabF m R != 0) = true := by simp [htz]
          have HT2 := Lib.hid hT
          clear hT htz
          generalize tabF m R = ft at HT2 E hb0
          go_wp2_with fail
          refine (HT2.out).mono ?_
          rintro e w2 ⟨rfl, hb2⟩
          go_wp2_with fail
          go_ret2
          refine ⟨?_, below_all BWw.out hb2⟩
          rw [HF.out, HQ.out, E.out.1, E.out.2]
          rfl

end Go.Proofs.Ythhkcckikmldcaa
