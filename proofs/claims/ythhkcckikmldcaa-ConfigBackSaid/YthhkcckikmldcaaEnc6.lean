/-
  Config: the contract of Encode. (Written by gen_enc6.py, a program of this session's own.)
-/
import Derived.Test.YthhkcckikmldcaaEnc5
set_option linter.unusedVariables false
set_option linter.unusedSimpArgs false
namespace Go.Proofs.Ythhkcckikmldcaa
open Go.RowKit

/-- What Encode gives: the fault, and the bytes where there is none. -/
def EncPost (n : Nat) (S : Nat → Nat → Int) (m : Nat) (R : Nat → Nat → Int) (x : Nat → Int) (w : World) (e : Ending) (w' : World) : Prop :=
  ∃ v l, e = .returned (.tuple #[v, .int .i64 (chkF n S m R x)]) ∧ Own1 w.heap.size v l w' ∧ (chkF n S m R x = 0 → l = encC n S m R x) ∧ (chkF n S m R x ≠ 0 → l = []) ∧ Below w.heap.size w w'

theorem sym16 (sk : Nat → Int) (j : Nat) (hj : j < 16) : (#[.int .i64 (sk 0), .int .i64 (sk 1), .int .i64 (sk 2), .int .i64 (sk 3), .int .i64 (sk 4), .int .i64 (sk 5), .int .i64 (sk 6), .int .i64 (sk 7), .int .i64 (sk 8), .int .i64 (sk 9), .int .i64 (sk 10), .int .i64 (sk 11), .int .i64 (sk 12), .int .i64 (sk 13), .int .i64 (sk 14), .int .i64 (sk 15)] : Array Value)[j]? = some (.int .i64 (sk j)) := by
  rcases (by omega : j = 0 ∨ j = 1 ∨ j = 2 ∨ j = 3 ∨ j = 4 ∨ j = 5 ∨ j = 6 ∨ j = 7 ∨ j = 8 ∨ j = 9 ∨ j = 10 ∨ j = 11 ∨ j = 12 ∨ j = 13 ∨ j = 14 ∨ j = 15) with rfl | rfl | rfl | rfl | rfl | rfl | rfl | rfl | rfl | rfl | rfl | rfl | rfl | rfl | rfl | rfl <;> rfl
theorem cfg6 (v0 v1 : Value) (x : Nat → Int) (j : Nat) (hj : j < 6) : (#[v0, v1, .int .i64 (x 0), .int .i64 (x 1), .int .i64 (x 2), .int .i64 (x 3), .int .i64 (x 4), .int .i64 (x 5)] : Array Value)[2 + j]? = some (.int .i64 (x j)) := by
  rcases (by omega : j = 0 ∨ j = 1 ∨ j = 2 ∨ j = 3 ∨ j = 4 ∨ j = 5) with rfl | rfl | rfl | rfl | rfl | rfl <;> rfl
theorem toNat_lt {z : Int} (h : small z) : z.toNat < 18446744073709551616 := by unfold small at h; omega

theorem bts2_two (G : Nat → Nat → Nat) (q : Nat) : bts2 G (q + 1) 2 = bts2 G q 2 ++ (numL (G q 0) ++ numL (G q 1)) := by
  rw [bts2_succ, show (2 : Nat) = 1 + 1 from rfl, bts_succ, bts_one]

set_option maxHeartbeats 1000000 in
theorem encode_no (A : Option Addr) (n c : Nat) (B : Option Addr) (m d : Nat) (S R : Nat → Nat → Int) (x : Nat → Int) (w : World) (h : CfgIn w A n c B m d S R x) (hz : chkF n S m R x ≠ 0) :
    Calls Try.prog 32 #[.agg #[.slice A n c, .slice B m d, .int .i64 (x 0), .int .i64 (x 1), .int .i64 (x 2), .int .i64 (x 3), .int .i64 (x 4), .int .i64 (x 5)]] w (EncPost n S m R x w) := by
  have HB := Lib.hid (below_al (Below.refl w.heap.size w) (.cells #[.slice A n c, .slice B m d, .int .i64 (x 0), .int .i64 (x 1), .int .i64 (x 2), .int .i64 (x 3), .int .i64 (x 4), .int .i64 (x 5)] 35))
  have HC := Lib.hid (check_any A n c B m d S R x _ (h.below HB.out))
  have c0 : ∀ j v, (#[.slice A n c, .slice B m d, .int .i64 (x 0), .int .i64 (x 1), .int .i64 (x 2), .int .i64 (x 3), .int .i64 (x 4), .int .i64 (x 5)] : Array Value)[j]? = some v → (w.alloc (.cells #[.slice A n c, .slice B m d, .int .i64 (x 0), .int .i64 (x 1), .int .i64 (x 2), .int .i64 (x 3), .int .i64 (x 4), .int .i64 (x 5)] 35)).cell? ⟨w.heap.size, j, none⟩ = some v := fun j v hv => cell_new_at w _ 35 j v hv
  have HC0 := Lib.hid c0
  have hp : ∀ w' (e : Ending), e = .returned (.tuple #[.slice none 0 0, .int .i64 (chkF n S m R x)]) → Below w.heap.size w w' → EncPost n S m R x w e w' := fun w' e he hb => ⟨.slice none 0 0, [], he, World.ownsRow_nil _ _ _ _, fun h0 => absurd h0 hz, fun _ => rfl, hb⟩
  have HP := Lib.hid hp
  have hz' : (chkF n S m R x == 0) = false := by simp [hz]
  have hz2 : (chkF n S m R x != 0) = true := by simp [hz]
  clear h c0 hz hp
  generalize EncPost n S m R x w = EP at HP ⊢
  generalize chkF n S m R x = ff at HC HP hz' hz2
  generalize chkI n S m R x = fi at HC
  go_enter Try.func32, Try.ntmps32
  go_wp2_with fail
  refine HC.out.mono ?_
  rintro e w1 ⟨rfl, hb1⟩
  have HB1 := Lib.hid (below_all HB.out hb1)
  clear hb1 HB HC0
  go_wp2_with fail
  exact HP.out _ _ rfl HB1.out

theorem encI_start {w w1 : World} {C : Nat} {cells : Array Value} (hb : Below w.heap.size w w1) (hC : w1.heap[C]? = some (.cells cells 35 (0, 0))) :
    EncI w C (w1.heap.size + 1) w1.heap.size cells [] ((w1.alloc (.cells #[.slice none 0 0] 134)).alloc (.cells #[.pointer (some ⟨w1.heap.size, 0, none⟩)] 132)) :=
  ⟨⟨hb.size, .slice none 0 0, alloc_old _ (heap_new w1 _), World.ownsRow_nil _ _ _ _⟩, below_al (below_al hb _) _, alloc_old _ (alloc_old _ hC), by
    have := heap_new (w1.alloc (.cells #[.slice none 0 0] 134)) (.cells #[.pointer (some ⟨w1.heap.size, 0, none⟩)] 132)
    rwa [World.size_alloc] at this⟩

set_option maxRecDepth 100000 in
set_option maxHeartbeats 8000000 in
theorem encode_yes (A : Option Addr) (n c : Nat) (B : Option Addr) (m d : Nat) (S R : Nat → Nat → Int) (x : Nat → Int) (w : World) (h : CfgIn w A n c B m d S R x) (hz : chkF n S m R x = 0) :
    Calls Try.prog 32 #[.agg #[.slice A n c, .slice B m d, .int .i64 (x 0), .int .i64 (x 1), .int .i64 (x 2), .int .i64 (x 3), .int .i64 (x 4), .int .i64 (x 5)]] w (EncPost n S m R x w) := by
  have HB := Lib.hid (below_al (Below.refl w.heap.size w) (.cells #[.slice A n c, .slice B m d, .int .i64 (x 0), .int .i64 (x 1), .int .i64 (x 2), .int .i64 (x 3), .int .i64 (x 4), .int .i64 (x 5)] 35))
  have HC := Lib.hid (check_any A n c B m d S R x _ (h.below HB.out))
  have K0 := Lib.hid (heap_new w (.cells #[.slice A n c, .slice B m d, .int .i64 (x 0), .int .i64 (x 1), .int .i64 (x 2), .int .i64 (x 3), .int .i64 (x 4), .int .i64 (x 5)] 35))
  have hp : ∀ w' (e : Ending) (v : Value), e = .returned (.tuple #[v, .int .i64 0]) → Own1 w.heap.size v (encC n S m R x) w' → Below w.heap.size w w' → EncPost n S m R x w e w' := fun w' e v he ho hb => ⟨v, _, by rw [hz]; exact he, ho, fun _ => rfl, fun h0 => absurd hz h0, hb⟩
  have HP := Lib.hid hp
  obtain ⟨hn, hm, _, _, hS, hR, hx⟩ := cfg_small hz
  have HS := Lib.hid hS
  have HR := Lib.hid hR
  have HX := Lib.hid hx
  have TS := Lib.hid h.syms
  have TR := Lib.hid h.rows
  rw [hz] at HC
  clear h hz hS hR hx hp
  generalize EncPost n S m R x w = EP at HP ⊢
  generalize chkI n S m R x = fi at HC
  go_enter Try.func32, Try.ntmps32
  go_wp2_with fail
  refine HC.out.mono ?_
  rintro e w1 ⟨rfl, hb1⟩
  have HB1 := Lib.hid (below_all HB.out hb1)
  have K1 := Lib.hid (block_keep hb1 (lt_of_heap K0.out) K0.out)
  have hlt := lt_of_heap K1.out
  have hC := lt_of_heap K0.out
  have I0 := Lib.hid (encI_start HB1.out K1.out)
  have y0 := cell_heap (j := 0) K1.out rfl
  clear hb1 HB K0 HC
  go_wp2_with fail
  refine (encI_num I0.out (n : Int) (by unfold small; omega) (by simp)).mono ?_
  rintro e w2 ⟨v2, rfl, hi, _⟩
  rw [List.nil_append, Int.toNat_natCast] at hi
  have I1 := Lib.hid hi
  have z0 := cell_heap (j := 0) hi.2.2.1 rfl
  generalize w1.heap.size = Bq at I1 ⊢
  clear hi I0 y0 hlt HB1 K1
  go_wp2_with fail
  go_loopw [35] (fun s wr => ∃ i : Nat, i ≤ n ∧ s = .int .i64 (i : Int) ∧ Hid (EncI w w.heap.size (Bq + 1) Bq #[.slice A n c, .slice B m d, .int .i64 (x 0), .int .i64 (x 1), .int .i64 (x 2), .int .i64 (x 3), .int .i64 (x 4), .int .i64 (x 5)] (numL n ++ bts2 (fun i j => (S i j).toNat) i 16) wr)) (fun s _ => n - (intOf s).toNat)
  case atStart => exact ⟨0, Nat.zero_le _, rfl, by rw [show bts2 (fun i j => (S i j).toNat) 0 16 = [] from rfl, List.append_nil]; exact I1⟩
  case round =>
    obtain ⟨i, hi, rfl, HI⟩ := hrel
    by_cases hlt : i < n
    · as_aux_lemma =>
      have hlt' : (i : Int) < (n : Int) := by omega
      obtain ⟨b, off, rfl, hcs⟩ := TS.out (by omega)
      have hb0 := HI.out.2.1
      have s0 : wr.cell? ⟨b, off + i * 16, none⟩ = some (.int .i64 (S i 0)) := bcell hb0 (hcs i hlt 0 (by omega))
      have s1 := bcell hb0 (hcs i hlt 1 (by omega))
      have s2 := bcell hb0 (hcs i hlt 2 (by omega))
      have s3 := bcell hb0 (hcs i hlt 3 (by omega))
      have s4 := bcell hb0 (hcs i hlt 4 (by omega))
      have s5 := bcell hb0 (hcs i hlt 5 (by omega))
      have s6 := bcell hb0 (hcs i hlt 6 (by omega))
      have s7 := bcell hb0 (hcs i hlt 7 (by omega))
      have s8 := bcell hb0 (hcs i hlt 8 (by omega))
      have s9 := bcell hb0 (hcs i hlt 9 (by omega))
      have s10 := bcell hb0 (hcs i hlt 10 (by omega))
      have s11 := bcell hb0 (hcs i hlt 11 (by omega))
      have s12 := bcell hb0 (hcs i hlt 12 (by omega))
      have s13 := bcell hb0 (hcs i hlt 13 (by omega))
      have s14 := bcell hb0 (hcs i hlt 14 (by omega))
      have s15 := bcell hb0 (hcs i hlt 15 (by omega))
      have HSi := Lib.hid (HS.out i hlt)
      have HS0 := Lib.hid HS.out
      have HQ := Lib.hid (heap_new wr (.cells #[.int .i64 (S i 0), .int .i64 (S i 1), .int .i64 (S i 2), .int .i64 (S i 3), .int .i64 (S i 4), .int .i64 (S i 5), .int .i64 (S i 6), .int .i64 (S i 7), .int .i64 (S i 8), .int .i64 (S i 9), .int .i64 (S i 10), .int .i64 (S i 11), .int .i64 (S i 12), .int .i64 (S i 13), .int .i64 (S i 14), .int .i64 (S i 15)] 56))
      have I2 := Lib.hid (HI.out.alloc (.cells #[.int .i64 (S i 0), .int .i64 (S i 1), .int .i64 (S i 2), .int .i64 (S i 3), .int .i64 (S i 4), .int .i64 (S i 5), .int .i64 (S i 6), .int .i64 (S i 7), .int .i64 (S i 8), .int .i64 (S i 9), .int .i64 (S i 10), .int .i64 (S i 11), .int .i64 (S i 12), .int .i64 (S i 13), .int .i64 (S i 14), .int .i64 (S i 15)] 56))
      clear hcs hb0 HI TS TR HR HX HS
      generalize hsk0 : S i = sk at HQ I2 HSi s0 s1 s2 s3 s4 s5 s6 s7 s8 s9 s10 s11 s12 s13 s14 s15
      have hsk := Lib.hid hsk0
      clear hsk0
      go_wp2_with fail
      refine (cells_any _ _).mono ?_
      rintro e w3 ⟨rfl, hb3⟩
      have I3 := Lib.hid (I2.out.below hb3)
      have Q3 := Lib.hid (block_keep hb3 (lt_of_heap HQ.out) HQ.out)
      clear hb3 I2 HQ s0 s1 s2 s3 s4 s5 s6 s7 s8 s9 s10 s11 s12 s13 s14 s15
      generalize wr.heap.size = Q at Q3 ⊢
      go_wp2_with fail
      have hl0 : (numL n ++ bts2 (fun i j => (S i j).toNat) i 16).length ≤ 10000 := by
        rw [List.length_append]
        have h1 := numL_len n 9 (by omega)
        have h2 := bts2_len (fun i j => (S i j).toNat) i 16 (fun a ha b hb => toNat_lt (HS0.out a (by omega) b hb))
        omega
      have hq : Hid (bts2 (fun i j => (S i j).toNat) (i + 1) 16 = bts2 (fun i j => (S i j).toNat) i 16 ++ bts (fun j => (sk j).toNat) 16) := by
        have := bts2_succ (fun i j => (S i j).toNat) i 16
        rw [← hsk.out]
        exact Lib.hid this
      generalize bts2 (fun i j => (S i j).toNat) i 16 = pre at I3 hl0 hq
      go_loopw [40] (fun s wq => ∃ j : Nat, j ≤ 16 ∧ s = .int .i64 (j : Int) ∧ Hid (EncI w w.heap.size (Bq + 1) Bq #[.slice (some ⟨b, off, none⟩) n c, .slice B m d, .int .i64 (x 0), .int .i64 (x 1), .int .i64 (x 2), .int .i64 (x 3), .int .i64 (x 4), .int .i64 (x 5)] (numL n ++ pre ++ bts (fun j => (sk j).toNat) j) wq) ∧ Hid (wq.heap[Q]? = some (.cells #[.int .i64 (sk 0), .int .i64 (sk 1), .int .i64 (sk 2), .int .i64 (sk 3), .int .i64 (sk 4), .int .i64 (sk 5), .int .i64 (sk 6), .int .i64 (sk 7), .int .i64 (sk 8), .int .i64 (sk 9), .int .i64 (sk 10), .int .i64 (sk 11), .int .i64 (sk 12), .int .i64 (sk 13), .int .i64 (sk 14), .int .i64 (sk 15)] 56 (0, 0)))) (fun s _ => 16 - (intOf s).toNat)
      case atStart => exact ⟨0, by omega, rfl, by rw [show bts (fun j => (sk j).toNat) 0 = [] from rfl, List.append_nil]; exact I3, Q3⟩
      case round =>
        obtain ⟨j, hj, rfl, HJ, HQJ⟩ := hrel
        by_cases hlj : j < 16
        · have hlj' : (j : Int) < 16 := by omega
          have hix := cellsV_at Q j hlj
          have hcj := cell_heap (j := j) HQJ.out (sym16 sk j hlj)
          have J1 := Lib.hid (HJ.out.alloc (.cells #[.pointer (ptL (lgS j) ⟨Q, j, none⟩), .pointer (ptL (!lgS j) ⟨Q, j, none⟩)] 116))
          have Q1 := Lib.hid (alloc_old (.cells #[.pointer (ptL (lgS j) ⟨Q, j, none⟩), .pointer (ptL (!lgS j) ⟨Q, j, none⟩)] 116) HQJ.out)
          have HG := Lib.hid (cell_getP (lgS j) ⟨Q, j, none⟩ (sk j) (wr.alloc (.cells #[.pointer (ptL (lgS j) ⟨Q, j, none⟩), .pointer (ptL (!lgS j) ⟨Q, j, none⟩)] 116)) (cell_heap Q1.out (sym16 sk j hlj)))
          clear hcj
          generalize ptL (lgS j) ⟨Q, j, none⟩ = p1 at hix J1 Q1 HG
          generalize ptL (!lgS j) ⟨Q, j, none⟩ = p2 at hix J1 Q1 HG
          generalize cellsV Q = cv at hix
          have hl1 : (numL n ++ pre ++ bts (fun j => (sk j).toNat) j).length ≤ 1000000 := by
            rw [List.length_append]
            have := bts_len (fun j => (sk j).toNat) j (fun k hk => toNat_lt (HSi.out k (by omega)))
            omega
          have HL1 := Lib.hid hl1
          clear hl1
          go_wp2_with fail
          refine HG.out.mono ?_
          rintro e w4 ⟨rfl, hb4⟩
          have J2 := Lib.hid (J1.out.below hb4)
          have Q2 := Lib.hid (block_keep hb4 (lt_of_heap Q1.out) Q1.out)
          clear hb4 J1 Q1 HG
          go_wp2_with fail
          refine (encI_num J2.out (sk j) (HSi.out j hlj) HL1.out).mono ?_
          rintro e w5 ⟨v5, rfl, hj5, hk5⟩
          have J3 := Lib.hid hj5
          have Q4 := Lib.hid (kept_at J2.out.1 hk5 Q2.out (by decide) (by decide))
          clear hj5 hk5 J2 Q2
          go_wp2_with fail
          go_roundw
          case rel => exact ⟨j + 1, by omega, by go_num, by rw [bts_succ, ← List.append_assoc]; exact J3, Q4⟩
          case measure => simp [intOf]; omega
        · obtain rfl : j = 16 := by omega
          go_wp2_with fail
          go_roundw
          case rel => exact ⟨i + 1, by omega, by go_num, by rw [hq.out, ← List.append_assoc]; exact HJ⟩
          case measure => simp [intOf]; omega
    · as_aux_lemma =>
      obtain rfl : n = i := by omega
      have y0 := cell_heap (j := 0) HI.out.2.2.1 rfl
      have y1 := cell_heap (j := 1) HI.out.2.2.1 rfl
      have hl0 : (numL n ++ bts2 (fun i j => (S i j).toNat) n 16).length ≤ 10000 := by
        rw [List.length_append]
        have h1 := numL_len n 9 (by omega)
        have h2 := bts2_len (fun i j => (S i j).toNat) n 16 (fun a ha b hb => toNat_lt (HS.out a (by omega) b hb))
        omega
      generalize hpre : numL n ++ bts2 (fun i j => (S i j).toNat) n 16 = pre at HI hl0
      have HPre := Lib.hid hpre
      clear hpre HS
      go_wp2_with fail
      refine (encI_num HI.out (m : Int) (by unfold small; omega) (by omega)).mono ?_
      rintro e w2 ⟨v2, rfl, hi2, _⟩
      rw [Int.toNat_natCast] at hi2
      have I1 := Lib.hid hi2
      have z1 := cell_heap (j := 1) hi2.2.2.1 rfl
      clear hi2 HI y0 y1
      go_wp2_with fail
      go_loopw [57] (fun s wr => ∃ i : Nat, i ≤ m ∧ s = .int .i64 (i : Int) ∧ Hid (EncI w w.heap.size (Bq + 1) Bq #[.slice A n c, .slice B m d, .int .i64 (x 0), .int .i64 (x 1), .int .i64 (x 2), .int .i64 (x 3), .int .i64 (x 4), .int .i64 (x 5)] (pre ++ numL m ++ bts2 (fun i j => (R i j).toNat) i 2) wr)) (fun s _ => m - (intOf s).toNat)
      case atStart => exact ⟨0, Nat.zero_le _, rfl, by rw [show bts2 (fun i j => (R i j).toNat) 0 2 = [] from rfl, List.append_nil]; exact I1⟩
      case round =>
        obtain ⟨q, hq, rfl, HI⟩ := hrel
        have hl2 : (pre ++ numL m ++ bts2 (fun i j => (R i j).toNat) q 2).length ≤ 20000 := by
          rw [List.length_append, List.length_append]
          have h1 := numL_len m 9 (by omega)
          have h2 := bts2_len (fun i j => (R i j).toNat) q 2 (fun a ha b hb => toNat_lt (HR.out a (by omega) b hb))
          omega
        have HL2 := Lib.hid hl2
        clear hl2
        by_cases hlt : q < m
        · as_aux_lemma =>
          have hlt' : (q : Int) < (m : Int) := by omega
          obtain ⟨b, off, rfl, hcs⟩ := TR.out (by omega)
          have s0 : wr.cell? ⟨b, off + q * 2, none⟩ = some (.int .i64 (R q 0)) := bcell HI.out.2.1 (hcs q hlt 0 (by omega))
          have s1 := bcell HI.out.2.1 (hcs q hlt 1 (by omega))
          have HQ := Lib.hid (heap_new wr (.cells #[.int .i64 (R q 0), .int .i64 (R q 1)] 53))
          have I2 := Lib.hid (HI.out.alloc (.cells #[.int .i64 (R q 0), .int .i64 (R q 1)] 53))
          have r0 := Lib.hid (HR.out q hlt 0 (by omega))
          have r1 := Lib.hid (HR.out q hlt 1 (by omega))
          have hq2 : Hid (bts2 (fun i j => (R i j).toNat) (q + 1) 2 = bts2 (fun i j => (R i j).toNat) q 2 ++ (numL (R q 0).toNat ++ numL (R q 1).toNat)) := Lib.hid (bts2_two (fun i j => (R i j).toNat) q)
          clear hcs HI TS TR HR HX
          generalize R q 0 = ra at s0 HQ I2 r0 hq2
          generalize R q 1 = rb at s1 HQ I2 r1 hq2
          go_wp2_with fail
          refine (encI_num I2.out ra r0.out (by have := HL2.out; omega)).mono ?_
          rintro e w3 ⟨v3, rfl, hi3, hk3⟩
          have I3 := Lib.hid hi3
          have Q3 := Lib.hid (kept_at I2.out.1 hk3 HQ.out (by decide) (by decide))
          have u1 := cell_heap (j := 1) Q3.out rfl
          clear hi3 hk3 I2 HQ s0 s1
          go_wp2_with fail
          refine (encI_num I3.out rb r1.out (by have := HL2.out; have := numL_len ra.toNat 9 (Nat.lt_trans (toNat_lt r0.out) (by decide)); rw [List.length_append]; omega)).mono ?_
          rintro e w4 ⟨v4, rfl, hi4, _⟩
          have I4 := Lib.hid hi4
          clear hi4 I3 Q3 u1
          go_wp2_with fail
          go_roundw
          case rel => exact ⟨q + 1, by omega, by go_num, by rw [hq2.out, ← List.append_assoc, ← List.append_assoc]; exact I4⟩
          case measure => simp [intOf]; omega
        · as_aux_lemma =>
          obtain rfl : m = q := by omega
          have y0 := I1.out
          clear y0
          go_wp2_with fail
          refine (rest_any w.heap.size wr).mono ?_
          rintro e w3 ⟨rfl, hb3⟩
          have I3 := Lib.hid (HI.out.below hb3)
          have hq3 : Hid (encC n S m R x = pre ++ numL m ++ bts2 (fun i j => (R i j).toNat) m 2 ++ bts (fun j => (x j).toNat) 6) := Lib.hid (by unfold encC encB; rw [HPre.out])
          clear hb3 HI TS TR HR I1 HPre
          generalize pre ++ numL m ++ bts2 (fun i j => (R i j).toNat) m 2 = pre2 at I3 HL2 hq3
          generalize encC n S m R x = ec at HP hq3
          go_wp2_with fail
          go_loopw [71] (fun s wq => ∃ j : Nat, j ≤ 6 ∧ s = .int .i64 (j : Int) ∧ Hid (EncI w w.heap.size (Bq + 1) Bq #[.slice A n c, .slice B m d, .int .i64 (x 0), .int .i64 (x 1), .int .i64 (x 2), .int .i64 (x 3), .int .i64 (x 4), .int .i64 (x 5)] (pre2 ++ bts (fun j => (x j).toNat) j) wq)) (fun s _ => 6 - (intOf s).toNat)
          case atStart => exact ⟨0, by omega, rfl, by rw [show bts (fun j => (x j).toNat) 0 = [] from rfl, List.append_nil]; exact I3⟩
          case round =>
            obtain ⟨j, hj, rfl, HJ⟩ := hrel
            have hl1 : (pre2 ++ bts (fun j => (x j).toNat) j).length ≤ 1000000 := by
              rw [List.length_append]
              have := HL2.out
              have := bts_len (fun j => (x j).toNat) j (fun k hk => toNat_lt (HX.out k (by omega)))
              omega
            have HL1 := Lib.hid hl1
            clear hl1
            by_cases hlj : j < 6
            · have hlj' : (j : Int) < 6 := by omega
              have hix := restV_at w.heap.size j hlj
              have J1 := Lib.hid (HJ.out.alloc (.cells #[.pointer (ptL (lgX j) ⟨w.heap.size, 2 + j, none⟩), .pointer (ptL (!lgX j) ⟨w.heap.size, 2 + j, none⟩)] 116))
              have HG := Lib.hid (cell_getP (lgX j) ⟨w.heap.size, 2 + j, none⟩ (x j) (wr.alloc (.cells #[.pointer (ptL (lgX j) ⟨w.heap.size, 2 + j, none⟩), .pointer (ptL (!lgX j) ⟨w.heap.size, 2 + j, none⟩)] 116)) (cell_heap J1.out.2.2.1 (cfg6 _ _ x j hlj)))
              generalize ptL (lgX j) ⟨w.heap.size, 2 + j, none⟩ = p1 at hix J1 HG
              generalize ptL (!lgX j) ⟨w.heap.size, 2 + j, none⟩ = p2 at hix J1 HG
              generalize restV w.heap.size = cv at hix
              go_wp2_with fail
              refine HG.out.mono ?_
              rintro e w4 ⟨rfl, hb4⟩
              have J2 := Lib.hid (J1.out.below hb4)
              clear hb4 J1 HG
              go_wp2_with fail
              refine (encI_num J2.out (x j) (HX.out j hlj) HL1.out).mono ?_
              rintro e w5 ⟨v5, rfl, hj5, _⟩
              have J3 := Lib.hid hj5
              clear hj5 J2
              go_wp2_with fail
              go_roundw
              case rel => exact ⟨j + 1, by omega, by go_num, by rw [bts_succ, ← List.append_assoc]; exact J3⟩
              case measure => simp [intOf]; omega
            · obtain rfl : j = 6 := by omega
              have c0 := cell_heap (j := 0) HJ.out.2.2.2 rfl
              go_wp2_with fail
              refine (wbytes_any w.heap.size Bq _ HL1.out wr HJ.out.1).mono ?_
              rintro e w6 ⟨v6, rfl, ho, hb6⟩
              have O6 := Lib.hid (own1_mono ho HJ.out.2.1.size)
              have B6 := Lib.hid (below_all HJ.out.2.1 hb6)
              clear ho hb6 c0
              go_wp2_with fail
              exact HP.out _ _ _ rfl (by rw [hq3.out]; exact O6.out) B6.out

end Go.Proofs.Ythhkcckikmldcaa
