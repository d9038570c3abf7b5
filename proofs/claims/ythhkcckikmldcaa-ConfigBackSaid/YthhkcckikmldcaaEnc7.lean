/-
  Config: the contract of the document's Encode. (Written by gen_enc7.py, a program of this session's own.)
-/
import Derived.Test.YthhkcckikmldcaaEnc6
set_option linter.unusedVariables false
set_option linter.unusedSimpArgs false
namespace Go.Proofs.Ythhkcckikmldcaa
open Go.RowKit

set_option maxHeartbeats 4000000 in
theorem fields_any (sk : Nat → Int) (w : World) : Calls Try.prog 116 #[.agg #[.int .i64 (sk 0), .int .i64 (sk 1), .int .i64 (sk 2), .int .i64 (sk 3), .int .i64 (sk 4), .int .i64 (sk 5), .int .i64 (sk 6), .int .i64 (sk 7), .int .i64 (sk 8), .int .i64 (sk 9), .int .i64 (sk 10), .int .i64 (sk 11), .int .i64 (sk 12), .int .i64 (sk 13), .int .i64 (sk 14), .int .i64 (sk 15)]] w fun e w' => e = .returned (.agg #[.int .i64 (sk 0), .int .i64 (sk 1), .int .i64 (sk 2), .int .i64 (sk 3), .int .i64 (sk 4), .int .i64 (sk 5), .int .i64 (sk 6), .int .i64 (sk 7), .int .i64 (sk 8), .int .i64 (sk 9), .int .i64 (sk 10), .int .i64 (sk 11), .int .i64 (sk 12), .int .i64 (sk 13), .int .i64 (sk 14), .int .i64 (sk 15)]) ∧ Below w.heap.size w w' := by
  go_enter Try.func116, Try.ntmps116
  go_wp2
  refine bodyPost_ret (v := .agg #[.int .i64 (sk 0), .int .i64 (sk 1), .int .i64 (sk 2), .int .i64 (sk 3), .int .i64 (sk 4), .int .i64 (sk 5), .int .i64 (sk 6), .int .i64 (sk 7), .int .i64 (sk 8), .int .i64 (sk 9), .int .i64 (sk 10), .int .i64 (sk 11), .int .i64 (sk 12), .int .i64 (sk 13), .int .i64 (sk 14), .int .i64 (sk 15)]) ?rs rfl ⟨rfl, below_al (below_al (Below.refl _ _) _) _⟩
  case rs => simp [results, Try.f116, go_sem]

theorem refNum_z (z : Int) (hz : small z) (w : World) : Calls Try.prog 115 #[.int .u64 z] w fun e w' => ∃ g cap, e = .returned (.slice (some ⟨g, 0, none⟩) (numL z.toNat).length cap) ∧
    (∀ j u, (bcs (numL z.toNat))[j]? = some u → w'.cell? ((⟨g, 0, none⟩ : Addr).add j) = some u) ∧ Below w.heap.size w w' := by
  have h := refNum_any z.toNat (toNat_lt hz) w
  rw [show ((z.toNat : Nat) : Int) = z by have := hz.1; omega] at h
  refine h.mono ?_
  rintro e w' ⟨v, rfl, ho, hb⟩
  obtain ⟨g, cap, rfl, _, _⟩ := World.ownsRow.form ho (numL_pos _)
  exact ⟨g, cap, rfl, ho.cells rfl, hb⟩

/-- What holds while the document's Encode appends. -/
def RefI (w : World) (C : Nat) (cells : Array Value) (v : Value) (l : List UInt8) (wr : World) : Prop := Own1 w.heap.size v l wr ∧ Below w.heap.size w wr ∧ wr.heap[C]? = some (.cells cells 35 (0, 0))
theorem RefI.below {w wr w1 : World} {C : Nat} {cells : Array Value} {v : Value} {l : List UInt8} (h : RefI w C cells v l wr) (hb : Below wr.heap.size wr w1) : RefI w C cells v l w1 :=
  ⟨h.1.below hb, below_all h.2.1 hb, block_keep hb (lt_of_heap h.2.2) h.2.2⟩
theorem RefI.alloc {w wr : World} {C : Nat} {cells : Array Value} {v : Value} {l : List UInt8} (h : RefI w C cells v l wr) (o : Obj) : RefI w C cells v l (wr.alloc o) := h.below ((Below.refl _ _).alloc (Nat.le_refl _) o)
theorem app_keeps {w wr w1 : World} {C : Nat} {cells : Array Value} {v : Value} {l : List UInt8} (h : RefI w C cells v l wr) (hg : wr.grownBy w1 v.ownBlock) {k : Nat} {cs : Array Value} {t : TypeId} {fr : Nat × Nat} (hk : wr.heap[k]? = some (.cells cs t fr)) (ht : t ≠ 5) : w1.heap[k]? = some (.cells cs t fr) :=
  (hg.block k (lt_of_heap hk) (fun e => own_not h.1 hk ht e.symm)).trans hk
theorem refI_app {w wr w1 : World} {C : Nat} {cells : Array Value} {v v' : Value} {l l2 : List UInt8} (h : RefI w C cells v l wr) (hg : wr.grownBy w1 v.ownBlock) (ho : w1.ownsRow w.heap.size 5 1 v' (l.length + l2.length) (bcs l ++ bcs l2)) : RefI w C cells v' (l ++ l2) w1 :=
  ⟨by unfold Own1; rw [List.length_append, bcs_app]; exact ho, h.2.1.grown hg h.2.1.size (fun k e => (World.ownsRow.lt h.1 k e).1), app_keeps h hg h.2.2 (by decide)⟩
theorem numL_ten (z : Int) (hz : small z) : (numL z.toNat).length ≤ 10 := numL_len z.toNat 9 (Nat.lt_trans (toNat_lt hz) (by decide))
theorem app_max {a b : Nat} (ha : a ≤ 1000000) (hb : b ≤ 10) : a + b ≤ maxLen := by unfold maxLen; omega
theorem app_bytes {a b : Nat} (ha : a ≤ 1000000) (hb : b ≤ 10) : (a + b) * 1 ≤ 140737488355328 := by omega

theorem cfg6' (v0 v1 : Value) (x : Nat → Int) (k : Nat) (hj : k < 5) : (#[v0, v1, .int .i64 (x 0), .int .i64 (x 1), .int .i64 (x 2), .int .i64 (x 3), .int .i64 (x 4), .int .i64 (x 5)] : Array Value)[3 + k]? = some (.int .i64 (x (1 + k))) := by
  rcases (by omega : k = 0 ∨ k = 1 ∨ k = 2 ∨ k = 3 ∨ k = 4) with rfl | rfl | rfl | rfl | rfl <;> rfl

set_option maxHeartbeats 1000000 in
theorem refEncode_no (A : Option Addr) (n c : Nat) (B : Option Addr) (m d : Nat) (S R : Nat → Nat → Int) (x : Nat → Int) (w : World) (h : CfgIn w A n c B m d S R x) (hz : chkF n S m R x ≠ 0) :
    Calls Try.prog 66 #[.agg #[.slice A n c, .slice B m d, .int .i64 (x 0), .int .i64 (x 1), .int .i64 (x 2), .int .i64 (x 3), .int .i64 (x 4), .int .i64 (x 5)]] w (EncPost n S m R x w) := by
  have HB := Lib.hid (below_al (Below.refl w.heap.size w) (.cells #[.slice A n c, .slice B m d, .int .i64 (x 0), .int .i64 (x 1), .int .i64 (x 2), .int .i64 (x 3), .int .i64 (x 4), .int .i64 (x 5)] 35))
  have HC := Lib.hid (refCheck_any A n c B m d S R x _ (h.below HB.out))
  have hp : ∀ w' (e : Ending), e = .returned (.tuple #[.slice none 0 0, .int .i64 (chkF n S m R x)]) → Below w.heap.size w w' → EncPost n S m R x w e w' := fun w' e he hb => ⟨.slice none 0 0, [], he, World.ownsRow_nil _ _ _ _, fun h0 => absurd h0 hz, fun _ => rfl, hb⟩
  have HP := Lib.hid hp
  have hz' : (chkF n S m R x == 0) = false := by simp [hz]
  have hz2 : (chkF n S m R x != 0) = true := by simp [hz]
  clear h hz hp
  generalize EncPost n S m R x w = EP at HP ⊢
  generalize chkF n S m R x = ff at HC HP hz' hz2
  generalize chkI n S m R x = fi at HC
  go_enter Try.func66, Try.ntmps66
  go_wp2_with fail
  refine HC.out.mono ?_
  rintro e w1 ⟨rfl, hb1⟩
  have HB1 := Lib.hid (below_all HB.out hb1)
  clear hb1 HB
  go_wp2_with fail
  exact HP.out _ _ rfl HB1.out

set_option maxRecDepth 100000 in
set_option maxHeartbeats 8000000 in
theorem refEncode_yes (A : Option Addr) (n c : Nat) (B : Option Addr) (m d : Nat) (S R : Nat → Nat → Int) (x : Nat → Int) (w : World) (h : CfgIn w A n c B m d S R x) (hz : chkF n S m R x = 0) :
    Calls Try.prog 66 #[.agg #[.slice A n c, .slice B m d, .int .i64 (x 0), .int .i64 (x 1), .int .i64 (x 2), .int .i64 (x 3), .int .i64 (x 4), .int .i64 (x 5)]] w (EncPost n S m R x w) := by
  obtain ⟨i0, hi0, hz0, hz1, hz2⟩ := info_parts Try.info5
  have HI0 := Lib.hid hi0
  have HZ0 := Lib.hid hz0
  have HZ1 := Lib.hid hz1
  have HZ2 := Lib.hid hz2
  have HB := Lib.hid (below_al (Below.refl w.heap.size w) (.cells #[.slice A n c, .slice B m d, .int .i64 (x 0), .int .i64 (x 1), .int .i64 (x 2), .int .i64 (x 3), .int .i64 (x 4), .int .i64 (x 5)] 35))
  have HC := Lib.hid (refCheck_any A n c B m d S R x _ (h.below HB.out))
  have K0 := Lib.hid (heap_new w (.cells #[.slice A n c, .slice B m d, .int .i64 (x 0), .int .i64 (x 1), .int .i64 (x 2), .int .i64 (x 3), .int .i64 (x 4), .int .i64 (x 5)] 35))
  have hp : ∀ w' (e : Ending) (v : Value), e = .returned (.tuple #[v, .int .i64 0]) → Own1 w.heap.size v (encC n S m R x) w' → Below w.heap.size w w' → EncPost n S m R x w e w' := fun w' e v he ho hb => ⟨v, _, by rw [hz]; exact he, ho, fun _ => rfl, fun h0 => absurd hz h0, hb⟩
  have HP := Lib.hid hp
  obtain ⟨hn, hm, _, _, hS, hR, hx⟩ := cfg_small hz
  have HS := Lib.hid hS
  have HR := Lib.hid hR
  have HX := Lib.hid hx
  have TS := Lib.hid h.syms
  have TR := Lib.hid h.rows
  rw [hz] at HC
  clear h hz hS hR hx hp hi0 hz0 hz1 hz2
  generalize EncPost n S m R x w = EP at HP ⊢
  generalize chkI n S m R x = fi at HC
  go_enter Try.func66, Try.ntmps66
  go_wp2_with fail
  refine HC.out.mono ?_
  rintro e w1 ⟨rfl, hb1⟩
  have HB1 := Lib.hid (below_all HB.out hb1)
  have K1 := Lib.hid (block_keep hb1 (lt_of_heap K0.out) K0.out)
  have y0 := cell_heap (j := 0) K1.out rfl
  clear hb1 HB K0 HC
  go_wp2_with fail
  refine (refNum_any n (by omega) _).mono ?_
  rintro e w2 ⟨v2, rfl, ho, hb2⟩
  have I1 := Lib.hid (show RefI w w.heap.size #[.slice A n c, .slice B m d, .int .i64 (x 0), .int .i64 (x 1), .int .i64 (x 2), .int .i64 (x 3), .int .i64 (x 4), .int .i64 (x 5)] v2 (numL n) w2 from ⟨own1_mono ho HB1.out.size, below_all HB1.out hb2, block_keep hb2 (lt_of_heap K1.out) K1.out⟩)
  clear ho hb2 y0 K1 HB1
  go_wp2_with fail
  go_loopw [6, 7] (fun s6 s wr => ∃ i : Nat, i ≤ n ∧ s = .int .i64 (i : Int) ∧ Hid (RefI w w.heap.size #[.slice A n c, .slice B m d, .int .i64 (x 0), .int .i64 (x 1), .int .i64 (x 2), .int .i64 (x 3), .int .i64 (x 4), .int .i64 (x 5)] s6 (numL n ++ bts2 (fun i j => (S i j).toNat) i 16) wr)) (fun _ s _ => n - (intOf s).toNat)
  case atStart => exact ⟨0, Nat.zero_le _, rfl, by rw [show bts2 (fun i j => (S i j).toNat) 0 16 = [] from rfl, List.append_nil]; exact I1⟩
  case round =>
    obtain ⟨i, hi, rfl, HI⟩ := hrel
    have y0 := cell_heap (j := 0) HI.out.2.2 rfl
    have hl0 : (numL n ++ bts2 (fun i j => (S i j).toNat) i 16).length ≤ 10000 := by
      rw [List.length_append]
      have h1 := numL_len n 9 (by omega)
      have h2 := bts2_len (fun i j => (S i j).toNat) i 16 (fun a ha b hb => toNat_lt (HS.out a (by omega) b hb))
      omega
    by_cases hlt : i < n
    · as_aux_lemma =>
      have hlt' : (i : Int) < (n : Int) := by omega
      obtain ⟨b, off, rfl, hcs⟩ := TS.out (by omega)
      have hb0 := HI.out.2.1
      have s0 : wr.cell? ⟨b, off + i * 16, none⟩ = some (.int .i64 (S i 0)) := bcell hb0 (hcs i hlt 0 (by omega))
      have s1 := bcell hb0 (hcs i hlt 1 (by omega))
      have s2 := bcell hb0 (hcs i hlt 2 (by omega))
      have s3 := bcell hb0 (hcs i hlt 3 (by omega))
      have s4 := bcell hb0 (hcs i hlt 4 (by omega))
      have s5 := bcell hb0 (hcs i hlt 5 (by omega))
      have s6 := bcell hb0 (hcs i hlt 6 (by omega))
      have s7 := bcell hb0 (hcs i hlt 7 (by omega))
      have s8 := bcell hb0 (hcs i hlt 8 (by omega))
      have s9 := bcell hb0 (hcs i hlt 9 (by omega))
      have s10 := bcell hb0 (hcs i hlt 10 (by omega))
      have s11 := bcell hb0 (hcs i hlt 11 (by omega))
      have s12 := bcell hb0 (hcs i hlt 12 (by omega))
      have s13 := bcell hb0 (hcs i hlt 13 (by omega))
      have s14 := bcell hb0 (hcs i hlt 14 (by omega))
      have s15 := bcell hb0 (hcs i hlt 15 (by omega))
      have HSi := Lib.hid (HS.out i hlt)
      have HE := Lib.hid (show numL n ++ bts2 (fun i j => (S i j).toNat) (i + 1) 16 = (numL n ++ bts2 (fun i j => (S i j).toNat) i 16) ++ bts (fun j => (S i j).toNat) 16 by rw [bts2_succ, List.append_assoc])
      clear hcs hb0 TS TR HR HX HS
      go_wp2_with fail
      refine (fields_any (S i) _).mono ?_
      rintro e w3 ⟨rfl, hb3⟩
      have I3 := Lib.hid ((HI.out.below hb3).alloc (.cells #[.int .i64 (S i 0), .int .i64 (S i 1), .int .i64 (S i 2), .int .i64 (S i 3), .int .i64 (S i 4), .int .i64 (S i 5), .int .i64 (S i 6), .int .i64 (S i 7), .int .i64 (S i 8), .int .i64 (S i 9), .int .i64 (S i 10), .int .i64 (S i 11), .int .i64 (S i 12), .int .i64 (S i 13), .int .i64 (S i 14), .int .i64 (S i 15)] 130))
      have Q3 := Lib.hid (heap_new w3 (.cells #[.int .i64 (S i 0), .int .i64 (S i 1), .int .i64 (S i 2), .int .i64 (S i 3), .int .i64 (S i 4), .int .i64 (S i 5), .int .i64 (S i 6), .int .i64 (S i 7), .int .i64 (S i 8), .int .i64 (S i 9), .int .i64 (S i 10), .int .i64 (S i 11), .int .i64 (S i 12), .int .i64 (S i 13), .int .i64 (S i 14), .int .i64 (S i 15)] 130))
      have HL0 := Lib.hid hl0
      clear hb3 HI y0 hl0 s0 s1 s2 s3 s4 s5 s6 s7 s8 s9 s10 s11 s12 s13 s14 s15
      go_wp2_with fail
      generalize S i = sk at I3 Q3 HSi HE
      generalize numL n ++ bts2 (fun i j => (S i j).toNat) i 16 = pre at I3 HL0 HE
      go_loopw [6, 9] (fun s6 s wq => ∃ j : Nat, j ≤ 16 ∧ s = .int .i64 (j : Int) ∧ Hid (RefI w w.heap.size #[.slice (some ⟨b, off, none⟩) n c, .slice B m d, .int .i64 (x 0), .int .i64 (x 1), .int .i64 (x 2), .int .i64 (x 3), .int .i64 (x 4), .int .i64 (x 5)] s6 (pre ++ bts (fun j => (sk j).toNat) j) wq) ∧ Hid (wq.heap[w3.heap.size]? = some (.cells #[.int .i64 (sk 0), .int .i64 (sk 1), .int .i64 (sk 2), .int .i64 (sk 3), .int .i64 (sk 4), .int .i64 (sk 5), .int .i64 (sk 6), .int .i64 (sk 7), .int .i64 (sk 8), .int .i64 (sk 9), .int .i64 (sk 10), .int .i64 (sk 11), .int .i64 (sk 12), .int .i64 (sk 13), .int .i64 (sk 14), .int .i64 (sk 15)] 130 (0, 0)))) (fun _ s _ => 16 - (intOf s).toNat)
      case atStart => exact ⟨0, by omega, rfl, by rw [show bts (fun j => (sk j).toNat) 0 = [] from rfl, List.append_nil]; exact I3, Q3⟩
      case round =>
        obtain ⟨j, hj, rfl, HJ, HQJ⟩ := hrel
        by_cases hlj : j < 16
        · have hlj' : (j : Int) < 16 := by omega
          have hcj := cell_heap (j := j) HQJ.out (sym16 sk j hlj)
          have zs := Lib.hid (HSi.out j hlj)
          have z1 : 0 ≤ sk j := zs.out.1
          have z2 : sk j ≤ 1125899906842624 := zs.out.2
          have HL := Lib.hid (show (pre ++ bts (fun j => (sk j).toNat) j).length ≤ 1000000 by
            rw [List.length_append]
            have := HL0.out
            have := bts_len (fun j => (sk j).toNat) j (fun k hk => toNat_lt (HSi.out k (by omega)))
            omega)
          go_wp2_with fail
          refine (refNum_z (sk j) zs.out _).mono ?_
          rintro e wn ⟨g, cap, rfl, hg, hbn⟩
          have HG := Lib.hid hg
          have HN := Lib.hid (HJ.out.below hbn)
          have QN := Lib.hid (block_keep hbn (lt_of_heap HQJ.out) HQJ.out)
          have HZ := Lib.hid (numL_ten (sk j) zs.out)
          clear hg hbn HJ
          go_wp2_with (at_builtin; refine wpList_append_own _ rfl (.tmp 42) (.tmp 47) 30 rfl w.heap.size 5 i0 (.int .u8 0) 1 1 Try.underlying30 HI0.out HZ0.out HZ1.out HZ2.out rfl (by decide) _ _ _ rfl HN.out.1 ⟨g, 0, none⟩ (numL ((sk j)).toNat).length cap (bcs (numL ((sk j)).toNat)) rfl (by rw [bcs_len, Nat.mul_one]) HG.out (bcs_one _) (app_max HL.out HZ.out) (app_bytes HL.out HZ.out) HN.out.2.1.size ?_; intro v' w1 hown1 hgrow _; have Q5 := Lib.hid (app_keeps HN.out hgrow QN.out (by decide)); have J := Lib.hid (refI_app HN.out hgrow hown1); clear hown1 hgrow)
          go_roundw
          case rel => exact ⟨j + 1, by omega, by go_num, by rw [bts_succ, ← List.append_assoc]; exact J, Q5⟩
          case measure => simp [intOf]; omega
        · obtain rfl : j = 16 := by omega
          go_wp2_with fail
          go_roundw
          case rel => exact ⟨i + 1, by omega, by go_num, by rw [HE.out]; exact HJ⟩
          case measure => simp [intOf]; omega
    · as_aux_lemma =>
      obtain rfl : n = i := by omega
      have y1 := cell_heap (j := 1) HI.out.2.2 rfl
      have HL := Lib.hid (show (numL n ++ bts2 (fun i j => (S i j).toNat) n 16).length ≤ 1000000 by omega)
      have HL0 := Lib.hid hl0
      have zm := Lib.hid (show small (m : Int) by unfold small; omega)
      have HPre := Lib.hid (show encC n S m R x = numL n ++ bts2 (fun i j => (S i j).toNat) n 16 ++ numL m ++ bts2 (fun i j => (R i j).toNat) m 2 ++ bts (fun j => (x j).toNat) 6 from rfl)
      clear hl0 HS TS
      generalize numL n ++ bts2 (fun i j => (S i j).toNat) n 16 = pre at HI HL HL0 HPre
      generalize encC n S m R x = ec at HP HPre
      go_wp2_with fail
      refine (refNum_z (m : Int) zm.out _).mono ?_
      rintro e wn ⟨g, cap, rfl, hg, hbn⟩
      have HG := Lib.hid hg
      have HN := Lib.hid (HI.out.below hbn)
      have HZ := Lib.hid (numL_ten (m : Int) zm.out)
      clear hg hbn HI
      go_wp2_with (at_builtin; refine wpList_append_own _ rfl (.tmp 49) (.tmp 54) 30 rfl w.heap.size 5 i0 (.int .u8 0) 1 1 Try.underlying30 HI0.out HZ0.out HZ1.out HZ2.out rfl (by decide) _ _ _ rfl HN.out.1 ⟨g, 0, none⟩ (numL ((m : Int)).toNat).length cap (bcs (numL ((m : Int)).toNat)) rfl (by rw [bcs_len, Nat.mul_one]) HG.out (bcs_one _) (app_max HL.out HZ.out) (app_bytes HL.out HZ.out) HN.out.2.1.size ?_; intro v' w1 hown1 hgrow _; have J := Lib.hid (refI_app HN.out hgrow hown1); clear hown1 hgrow)
      rw [Int.toNat_natCast] at J
      (try clear y0)
      (try clear y1)
      (try clear HL)
      go_loopw [6, 10] (fun s6 s wr => ∃ i : Nat, i ≤ m ∧ s = .int .i64 (i : Int) ∧ Hid (RefI w w.heap.size #[.slice A n c, .slice B m d, .int .i64 (x 0), .int .i64 (x 1), .int .i64 (x 2), .int .i64 (x 3), .int .i64 (x 4), .int .i64 (x 5)] s6 (pre ++ numL m ++ bts2 (fun i j => (R i j).toNat) i 2) wr)) (fun _ s _ => m - (intOf s).toNat)
      case atStart => exact ⟨0, Nat.zero_le _, rfl, by rw [show bts2 (fun i j => (R i j).toNat) 0 2 = [] from rfl, List.append_nil]; exact J⟩
      case round =>
        obtain ⟨q, hq, rfl, HI⟩ := hrel
        have y1 := cell_heap (j := 1) HI.out.2.2 rfl
        have HL := Lib.hid (show (pre ++ numL m ++ bts2 (fun i j => (R i j).toNat) q 2).length ≤ 20000 by
          rw [List.length_append, List.length_append]
          have := HL0.out
          have h1 := numL_len m 9 (by omega)
          have h2 := bts2_len (fun i j => (R i j).toNat) q 2 (fun a ha b hb => toNat_lt (HR.out a (by omega) b hb))
          omega)
        by_cases hlt : q < m
        · as_aux_lemma =>
          have hlt' : (q : Int) < (m : Int) := by omega
          obtain ⟨b, off, rfl, hcs⟩ := TR.out (by omega)
          have s0 : wr.cell? ⟨b, off + q * 2, none⟩ = some (.int .i64 (R q 0)) := bcell HI.out.2.1 (hcs q hlt 0 (by omega))
          have HCS := Lib.hid (hcs q hlt 1 (by omega))
          have r0 := Lib.hid (HR.out q hlt 0 (by omega))
          have r1 := Lib.hid (HR.out q hlt 1 (by omega))
          have HE := Lib.hid (show pre ++ numL m ++ bts2 (fun i j => (R i j).toNat) (q + 1) 2 = (pre ++ numL m ++ bts2 (fun i j => (R i j).toNat) q 2) ++ numL (R q 0).toNat ++ numL (R q 1).toNat by rw [bts2_two]; simp only [List.append_assoc])
          clear hcs TR HR HX
          generalize R q 0 = ra at s0 r0 HE
          generalize R q 1 = rb at HCS r1 HE
          generalize pre ++ numL m ++ bts2 (fun i j => (R i j).toNat) q 2 = pre2 at HI HL HE
          have z1 : 0 ≤ ra := r0.out.1
          have z2 : ra ≤ 1125899906842624 := r0.out.2
          have z3 : 0 ≤ rb := r1.out.1
          have z4 : rb ≤ 1125899906842624 := r1.out.2
          have HL2 := Lib.hid HL.out
          replace HL := Lib.hid (show pre2.length ≤ 1000000 by have := HL2.out; omega)
          go_wp2_with fail
          refine (refNum_z ra r0.out _).mono ?_
          rintro e wn ⟨g, cap, rfl, hg, hbn⟩
          have HG := Lib.hid hg
          have HN := Lib.hid (HI.out.below hbn)
          have HZ := Lib.hid (numL_ten ra r0.out)
          clear hg hbn HI
          go_wp2_with (at_builtin; refine wpList_append_own _ rfl (.tmp 63) (.tmp 71) 30 rfl w.heap.size 5 i0 (.int .u8 0) 1 1 Try.underlying30 HI0.out HZ0.out HZ1.out HZ2.out rfl (by decide) _ _ _ rfl HN.out.1 ⟨g, 0, none⟩ (numL ra.toNat).length cap (bcs (numL ra.toNat)) rfl (by rw [bcs_len, Nat.mul_one]) HG.out (bcs_one _) (app_max HL.out HZ.out) (app_bytes HL.out HZ.out) HN.out.2.1.size ?_; intro v' w1 hown1 hgrow _; have J := Lib.hid (refI_app HN.out hgrow hown1); have y2 := cell_heap (j := 1) J.out.2.2 rfl; have s1 := bcell J.out.2.1 HCS.out; clear hown1 hgrow)
          have HLb := Lib.hid (show (pre2 ++ numL ra.toNat).length ≤ 1000000 by rw [List.length_append]; have := HL2.out; have := HZ.out; omega)
          replace HL := HLb
          have HI := J
          refine (refNum_z rb r1.out _).mono ?_
          rintro e wn ⟨g, cap, rfl, hg, hbn⟩
          have HG := Lib.hid hg
          have HN := Lib.hid (HI.out.below hbn)
          have HZ := Lib.hid (numL_ten rb r1.out)
          clear hg hbn HI
          go_wp2_with (at_builtin; refine wpList_append_own _ rfl (.tmp 73) (.tmp 81) 30 rfl w.heap.size 5 i0 (.int .u8 0) 1 1 Try.underlying30 HI0.out HZ0.out HZ1.out HZ2.out rfl (by decide) _ _ _ rfl HN.out.1 ⟨g, 0, none⟩ (numL rb.toNat).length cap (bcs (numL rb.toNat)) rfl (by rw [bcs_len, Nat.mul_one]) HG.out (bcs_one _) (app_max HL.out HZ.out) (app_bytes HL.out HZ.out) HN.out.2.1.size ?_; intro v' w1 hown1 hgrow _; have J := Lib.hid (refI_app HN.out hgrow hown1); clear hown1 hgrow)
          go_roundw
          case rel => exact ⟨q + 1, by omega, by go_num, by rw [HE.out]; exact J⟩
          case measure => simp [intOf]; omega
        · as_aux_lemma =>
          obtain rfl : m = q := by omega
          have x0 := Lib.hid (HX.out 0 (by omega))
          have HL2 := Lib.hid HL.out
          replace HL := Lib.hid (show (pre ++ numL m ++ bts2 (fun i j => (R i j).toNat) m 2).length ≤ 1000000 by have := HL2.out; omega)
          have HXs := Lib.hid (show ∀ j, j < 6 → (pre ++ numL m ++ bts2 (fun i j => (R i j).toNat) m 2 ++ bts (fun j => (x j).toNat) j).length ≤ 1000000 from fun j hj => by
            rw [List.length_append]
            have := HL2.out
            have := bts_len (fun j => (x j).toNat) j (fun k hk => toNat_lt (HX.out k (by omega)))
            omega)
          have y2 := cell_heap (j := 2) HI.out.2.2 rfl
          have z1 : 0 ≤ x 0 := x0.out.1
          have z2 : x 0 ≤ 1125899906842624 := x0.out.2
          generalize pre ++ numL m ++ bts2 (fun i j => (R i j).toNat) m 2 = pre2 at HI HL HL2 HPre HXs
          clear TR HR
          go_wp2_with fail
          refine (refNum_z (x 0) x0.out _).mono ?_
          rintro e wn ⟨g, cap, rfl, hg, hbn⟩
          have HG := Lib.hid hg
          have HN := Lib.hid (HI.out.below hbn)
          have HZ := Lib.hid (numL_ten (x 0) x0.out)
          clear hg hbn HI
          go_wp2_with (at_builtin; refine wpList_append_own _ rfl (.tmp 83) (.tmp 87) 30 rfl w.heap.size 5 i0 (.int .u8 0) 1 1 Try.underlying30 HI0.out HZ0.out HZ1.out HZ2.out rfl (by decide) _ _ _ rfl HN.out.1 ⟨g, 0, none⟩ (numL ((x 0)).toNat).length cap (bcs (numL ((x 0)).toNat)) rfl (by rw [bcs_len, Nat.mul_one]) HG.out (bcs_one _) (app_max HL.out HZ.out) (app_bytes HL.out HZ.out) HN.out.2.1.size ?_; intro v' w1 hown1 hgrow _; have J := Lib.hid (refI_app HN.out hgrow hown1); clear hown1 hgrow)
          have J0 := Lib.hid (show RefI w w.heap.size #[.slice A n c, .slice B m d, .int .i64 (x 0), .int .i64 (x 1), .int .i64 (x 2), .int .i64 (x 3), .int .i64 (x 4), .int .i64 (x 5)] _ (pre2 ++ bts (fun j => (x j).toNat) 1) _ by rw [bts_one]; exact J.out)
          go_loopw [6, 11] (fun s6 s wr => ∃ i : Nat, i ≤ 3 ∧ s = .int .i64 (i : Int) ∧ Hid (RefI w w.heap.size #[.slice A n c, .slice B m d, .int .i64 (x 0), .int .i64 (x 1), .int .i64 (x 2), .int .i64 (x 3), .int .i64 (x 4), .int .i64 (x 5)] s6 (pre2 ++ bts (fun j => (x j).toNat) (1 + i)) wr)) (fun _ s _ => 3 - (intOf s).toNat)
          case atStart => exact ⟨0, by omega, rfl, J0⟩
          case round =>
            obtain ⟨k, hk, rfl, HK⟩ := hrel
            have HL := Lib.hid (HXs.out (1 + k) (by omega))
            by_cases hlk : k < 3
            · have hlk' : (k : Int) < 3 := by omega
              have yk := cell_heap (j := 3 + k) HK.out.2.2 (cfg6' _ _ x k (by omega))
              have xk := Lib.hid (HX.out (1 + k) (by omega))
              have HE := Lib.hid (show pre2 ++ bts (fun j => (x j).toNat) (1 + (k + 1)) = pre2 ++ bts (fun j => (x j).toNat) (1 + k) ++ numL (x (1 + k)).toNat by rw [← Nat.add_assoc, bts_succ, List.append_assoc])
              have z3 : 0 ≤ x (1 + k) := xk.out.1
              have z4 : x (1 + k) ≤ 1125899906842624 := xk.out.2
              go_wp2_with fail
              refine (refNum_z (x (1 + k)) xk.out _).mono ?_
              rintro e wn ⟨g, cap, rfl, hg, hbn⟩
              have HG := Lib.hid hg
              have HN := Lib.hid (HK.out.below hbn)
              have HZ := Lib.hid (numL_ten (x (1 + k)) xk.out)
              clear hg hbn HK
              go_wp2_with (at_builtin; refine wpList_append_own _ rfl (.tmp 93) (.tmp 99) 30 rfl w.heap.size 5 i0 (.int .u8 0) 1 1 Try.underlying30 HI0.out HZ0.out HZ1.out HZ2.out rfl (by decide) _ _ _ rfl HN.out.1 ⟨g, 0, none⟩ (numL ((x (1 + k))).toNat).length cap (bcs (numL ((x (1 + k))).toNat)) rfl (by rw [bcs_len, Nat.mul_one]) HG.out (bcs_one _) (app_max HL.out HZ.out) (app_bytes HL.out HZ.out) HN.out.2.1.size ?_; intro v' w1 hown1 hgrow _; have J := Lib.hid (refI_app HN.out hgrow hown1); clear hown1 hgrow)
              go_roundw
              case rel => exact ⟨k + 1, by omega, by go_num, by rw [HE.out]; exact J⟩
              case measure => simp [intOf]; omega
            · obtain rfl : k = 3 := by omega
              have x4 := Lib.hid (HX.out 4 (by omega))
              have x5 := Lib.hid (HX.out 5 (by omega))
              have HF := Lib.hid (show ec = pre2 ++ bts (fun j => (x j).toNat) (1 + 3) ++ numL (x 4).toNat ++ numL (x 5).toNat by
                rw [HPre.out, show (6 : Nat) = 1 + 3 + 1 + 1 from rfl, bts_succ, bts_succ]; simp only [List.append_assoc])
              have HLb := Lib.hid (show (pre2 ++ bts (fun j => (x j).toNat) (1 + 3) ++ numL (x 4).toNat).length ≤ 1000000 by
                rw [List.append_assoc, ← bts_succ (fun j => (x j).toNat) (1 + 3)]; exact HXs.out 5 (by omega))
              have y6 := cell_heap (j := 6) HK.out.2.2 rfl
              have z3 : 0 ≤ x 4 := x4.out.1
              have z4 : x 4 ≤ 1125899906842624 := x4.out.2
              have z5 : 0 ≤ x 5 := x5.out.1
              have z6 : x 5 ≤ 1125899906842624 := x5.out.2
              go_wp2_with fail
              refine (refNum_z (x 4) x4.out _).mono ?_
              rintro e wn ⟨g, cap, rfl, hg, hbn⟩
              have HG := Lib.hid hg
              have HN := Lib.hid (HK.out.below hbn)
              have HZ := Lib.hid (numL_ten (x 4) x4.out)
              clear hg hbn HK
              go_wp2_with (at_builtin; refine wpList_append_own _ rfl (.tmp 101) (.tmp 106) 30 rfl w.heap.size 5 i0 (.int .u8 0) 1 1 Try.underlying30 HI0.out HZ0.out HZ1.out HZ2.out rfl (by decide) _ _ _ rfl HN.out.1 ⟨g, 0, none⟩ (numL ((x 4)).toNat).length cap (bcs (numL ((x 4)).toNat)) rfl (by rw [bcs_len, Nat.mul_one]) HG.out (bcs_one _) (app_max HL.out HZ.out) (app_bytes HL.out HZ.out) HN.out.2.1.size ?_; intro v' w1 hown1 hgrow _; have J := Lib.hid (refI_app HN.out hgrow hown1); have y7 := cell_heap (j := 7) J.out.2.2 rfl; clear hown1 hgrow)
              replace HL := HLb
              have HI := J
              refine (refNum_z (x 5) x5.out _).mono ?_
              rintro e wn ⟨g, cap, rfl, hg, hbn⟩
              have HG := Lib.hid hg
              have HN := Lib.hid (HI.out.below hbn)
              have HZ := Lib.hid (numL_ten (x 5) x5.out)
              clear hg hbn HI
              go_wp2_with (at_builtin; refine wpList_append_own _ rfl (.tmp 108) (.tmp 113) 30 rfl w.heap.size 5 i0 (.int .u8 0) 1 1 Try.underlying30 HI0.out HZ0.out HZ1.out HZ2.out rfl (by decide) _ _ _ rfl HN.out.1 ⟨g, 0, none⟩ (numL ((x 5)).toNat).length cap (bcs (numL ((x 5)).toNat)) rfl (by rw [bcs_len, Nat.mul_one]) HG.out (bcs_one _) (app_max HL.out HZ.out) (app_bytes HL.out HZ.out) HN.out.2.1.size ?_; intro v' w1 hown1 hgrow _; have J := Lib.hid (refI_app HN.out hgrow hown1); clear hown1 hgrow)
              exact HP.out _ _ _ rfl (by rw [HF.out]; exact J.out.1) J.out.2.1

end Go.Proofs.Ythhkcckikmldcaa
