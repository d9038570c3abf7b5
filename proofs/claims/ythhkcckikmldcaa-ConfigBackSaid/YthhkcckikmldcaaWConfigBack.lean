/-
  The walk of ConfigBack. (Written by gen_wcb.py, a program of this session's own.)
-/
import Derived.Test.YthhkcckikmldcaaWConfigReads
import Derived.Test.YthhkcckikmldcaaWConfigEncodes
set_option linter.unusedVariables false
set_option linter.unusedSimpArgs false
namespace Go.Proofs.Ythhkcckikmldcaa
open Go.RowKit

theorem own1_none {B : Nat} {A : Option Addr} {n c : Nat} {l : List UInt8} {w : World} (h : Own1 B (.slice A n c) l w) : A = none → c = 0 := fun e => by
  unfold Own1 at h
  rcases h.2 with ⟨hv, _⟩ | ⟨g, cap, cur, hv, _⟩
  · injection hv
  · injection hv with e1
    rw [e] at e1
    cases e1
theorem encC_len {n m : Nat} {S R : Nat → Nat → Int} {x : Nat → Int} (hz : chkF n S m R x = 0) : (encC n S m R x).length ≤ 1000000 := by
  obtain ⟨h1, h2, _, _, hS, hR, hX⟩ := cfg_small hz
  have a1 := numL_len n 9 (by omega)
  have a2 := numL_len m 9 (by omega)
  have a3 := bts2_len (fun i j => (S i j).toNat) n 16 (fun a ha b hb => toNat_lt (hS a ha b hb))
  have a4 := bts2_len (fun i j => (R i j).toNat) m 2 (fun a ha b hb => toNat_lt (hR a ha b hb))
  have a5 := bts_len (fun j => (x j).toNat) 6 (fun k hk => toNat_lt (hX k hk))
  unfold encC encB
  simp only [List.length_append]
  omega

set_option maxRecDepth 100000 in
set_option maxHeartbeats 16000000 in
theorem walkConfigBack (w : World) (A : Option Addr) (n c : Nat) (B : Option Addr) (m d : Nat) (S R : Nat → Nat → Int) (x : Nat → Int) (k : CfgIn w A n c B m d S R x)
    (D : Option Addr) (l : List UInt8) (e : Nat) (hle : l.length ≤ e) (hmx : e ≤ 9223372036854775807) (hc0 : D = none → e = 0) (h : RB w D l) :
    Calls Try.prog 7 #[.agg #[.slice A n c, .slice B m d, .int .i64 (x 0), .int .i64 (x 1), .int .i64 (x 2), .int .i64 (x 3), .int .i64 (x 4), .int .i64 (x 5)], .slice D l.length e] w fun e w' => e = .returned (.bool true) ∧ Below w.heap.size w w' := by
  have HB := Lib.hid (below_al (Below.refl w.heap.size w) (.cells #[.slice A n c, .slice B m d, .int .i64 (x 0), .int .i64 (x 1), .int .i64 (x 2), .int .i64 (x 3), .int .i64 (x 4), .int .i64 (x 5)] 35))
  have K0 := Lib.hid (heap_new w (.cells #[.slice A n c, .slice B m d, .int .i64 (x 0), .int .i64 (x 1), .int .i64 (x 2), .int .i64 (x 3), .int .i64 (x 4), .int .i64 (x 5)] 35))
  have HL1 := Lib.hid (fun W => light7_any A n c B m d x W (Nat.le_trans k.nc k.cm) (Nat.le_trans k.md k.dm))
  have HCF := Lib.hid k
  have HR := Lib.hid h
  clear k h hle
  by_cases l1 : (decide (n ≤ 20) && decide (m ≤ 40)) = true
  · rw [l1] at HL1
    have s1 := l1
    simp only [Bool.and_eq_true, decide_eq_true_eq] at s1
    have HSS := Lib.hid s1
    clear l1 s1
    by_cases hbig : 1500 < l.length
    · have hb' : (1500 : Int) < (l.length : Int) := by omega
      clear hbig HCF HR
      go_enter Try.func7, Try.ntmps7
      go_wp2_with (refine wpList_load_blk 35 (.tmp 2) rfl rfl _ rfl 35 _ _ _ K0.out Try.underlying35 rfl (by kernel_rfl) ?_)
      refine (HL1.out _).mono ?_
      rintro ez w1 ⟨rfl, hb1⟩
      have B1 := Lib.hid (below_all HB.out hb1)
      clear hb1
      go_wp2_with fail
      refine (alive7 _).mono ?_
      rintro ez w9 ⟨rfl, hb9⟩
      go_wp2_with fail
      go_ret
      exact ⟨rfl, below_all B1.out hb9⟩
    · have hb' : ¬ (1500 : Int) < (l.length : Int) := by omega
      have HLE : Hid (l.length ≤ 1000000) := Lib.hid (by omega)
      clear hbig
      go_enter Try.func7, Try.ntmps7
      go_wp2_with (refine wpList_load_blk 35 (.tmp 2) rfl rfl _ rfl 35 _ _ _ K0.out Try.underlying35 rfl (by kernel_rfl) ?_)
      refine (HL1.out _).mono ?_
      rintro ez w1 ⟨rfl, hb1⟩
      have B1 := Lib.hid (below_all HB.out hb1)
      have K1 := Lib.hid (block_keep hb1 (lt_of_heap K0.out) K0.out)
      clear hb1 HB K0 HL1
      go_wp2_with (refine wpList_load_blk 35 (.tmp 2) rfl rfl _ rfl 35 _ _ _ K1.out Try.underlying35 rfl (by kernel_rfl) ?_)
      refine (encode_any A n c B m d S R x _ (HCF.out.below B1.out)).mono ?_
      rintro ez w2 ⟨v2, l2, rfl, o2, p2, q2, b2⟩
      have B2 := Lib.hid (below_all B1.out b2)
      have K2 := Lib.hid (block_keep b2 (lt_of_heap K1.out) K1.out)
      obtain ⟨A2, c2, rfl, r2, hl2⟩ := own1_form o2
      have N2 := Lib.hid (own1_none o2)
      have R2 := Lib.hid r2
      have P2 := Lib.hid p2
      clear o2 p2 q2 b2 r2 hl2 B1 K1
      go_wp2_with (refine wpList_load_blk 35 (.tmp 2) rfl rfl _ rfl 35 _ _ _ K2.out Try.underlying35 rfl (by kernel_rfl) ?_)
      refine (check_any A n c B m d S R x _ (HCF.out.below B2.out)).mono ?_
      rintro ez w3 ⟨rfl, b3⟩
      have B3 := Lib.hid (below_all B2.out b3)
      have K3 := Lib.hid (block_keep b3 (lt_of_heap K2.out) K2.out)
      have R3 := Lib.hid (RB.below R2.out b3)
      clear b3 B2 K2 R2
      generalize chkI n S m R x = fi
      by_cases hz : chkF n S m R x = 0
      · as_aux_lemma =>
        rw [hz]
        obtain ⟨hrd, hsm⟩ := enc_rd hz
        obtain rfl : l2 = encC n S m R x := P2.out hz
        have HGR := Lib.hid (gread_any A2 (encC n S m R x) c2 N2.out (encC_len hz) w3 R3.out)
        have HRD := Lib.hid hrd
        have HSM := Lib.hid hsm
        clear hz hrd hsm P2 N2 R3
        generalize encC n S m R x = lx at HGR HRD HSM ⊢
        go_wp2_with fail
        refine HGR.out.mono ?_
        rintro ez w4 ⟨A4, n4, c4, Y4, m4, d4, S4, R4, x4, rfl, k4, o4, b4⟩
        rw [HRD.out]
        have hs4 := rd_small o4
        have hsame := HSM.out n4 m4 S4 R4 x4 o4
        have B4 := Lib.hid (below_all B3.out b4)
        have K4 := Lib.hid (alloc_old (.cells #[.slice A4 n4 c4, .slice Y4 m4 d4, .int .i64 (x4 0), .int .i64 (x4 1), .int .i64 (x4 2), .int .i64 (x4 3), .int .i64 (x4 4), .int .i64 (x4 5)] 35) (block_keep b4 (lt_of_heap K3.out) K3.out))
        have KD := Lib.hid (heap_new w4 (.cells #[.slice A4 n4 c4, .slice Y4 m4 d4, .int .i64 (x4 0), .int .i64 (x4 1), .int .i64 (x4 2), .int .i64 (x4 3), .int .i64 (x4 4), .int .i64 (x4 5)] 35))
        have a4 : Below w4.heap.size w4 (w4.alloc (.cells #[.slice A4 n4 c4, .slice Y4 m4 d4, .int .i64 (x4 0), .int .i64 (x4 1), .int .i64 (x4 2), .int .i64 (x4 3), .int .i64 (x4 4), .int .i64 (x4 5)] 35)) := (Below.refl w4.heap.size w4).alloc (Nat.le_refl _) _
        have hs1 := HSS.out
        have HSA := Lib.hid (cfgSame_any A n c B m d S R x A4 n4 c4 Y4 m4 d4 S4 R4 x4 _ ((HCF.out.below B4.out).below a4).syms ((HCF.out.below B4.out).below a4).rows (k4.below a4).syms (k4.below a4).rows (by omega) (by omega) (by omega) (by omega))
        rw [hsame] at HSA
        have B5 := Lib.hid (below_all B4.out a4)
        clear hs4 hsame k4 o4 b4 a4 hs1 HSM HRD HGR B3 K3 B4
        go_wp2_with (first | (refine wpList_load_blk 35 (.tmp 2) rfl rfl _ rfl 35 _ _ _ K4.out Try.underlying35 rfl (by kernel_rfl) ?_) | (refine wpList_load_blk 35 (.tmp 9) rfl rfl _ rfl 35 _ _ _ KD.out Try.underlying35 rfl (by kernel_rfl) ?_))
        refine HSA.out.mono ?_
        rintro ez w5 ⟨rfl, hb5⟩
        have BW := Lib.hid (below_all B5.out hb5)
        clear hb5 HSA K4 KD B5
        go_wp2_with fail
        refine (gread_any D l e hc0 HLE.out _ (RB.below HR.out BW.out)).mono ?_
        rintro ez w6 ⟨A6, n6, c6, Y6, m6, d6, S6, R6, x6, rfl, k6, o6, b6⟩
        have B6 := Lib.hid (below_all BW.out b6)
        by_cases hz6 : rdF l = 0
        · as_aux_lemma =>
          obtain ⟨hchk, henc⟩ := rd_enc o6 hz6
          rw [hz6]
          have KD := Lib.hid (heap_new w6 (.cells #[.slice A6 n6 c6, .slice Y6 m6 d6, .int .i64 (x6 0), .int .i64 (x6 1), .int .i64 (x6 2), .int .i64 (x6 3), .int .i64 (x6 4), .int .i64 (x6 5)] 35))
          have HEN := Lib.hid (encode_any A6 n6 c6 Y6 m6 d6 S6 R6 x6 (w6.alloc (.cells #[.slice A6 n6 c6, .slice Y6 m6 d6, .int .i64 (x6 0), .int .i64 (x6 1), .int .i64 (x6 2), .int .i64 (x6 3), .int .i64 (x6 4), .int .i64 (x6 5)] 35)) (k6.below ((Below.refl _ _).alloc (Nat.le_refl _) _)))
          have HRB := Lib.hid (RB.below (RB.below HR.out B6.out) ((Below.refl w6.heap.size w6).alloc (Nat.le_refl _) (.cells #[.slice A6 n6 c6, .slice Y6 m6 d6, .int .i64 (x6 0), .int .i64 (x6 1), .int .i64 (x6 2), .int .i64 (x6 3), .int .i64 (x6 4), .int .i64 (x6 5)] 35)))
          have B7 := Lib.hid (B6.out.alloc B6.out.size (.cells #[.slice A6 n6 c6, .slice Y6 m6 d6, .int .i64 (x6 0), .int .i64 (x6 1), .int .i64 (x6 2), .int .i64 (x6 3), .int .i64 (x6 4), .int .i64 (x6 5)] 35))
          have HCK := Lib.hid hchk
          have HNC := Lib.hid henc
          clear o6 k6 b6 hz6 hchk henc
          go_wp2_with (refine wpList_load_blk 35 (.tmp 11) rfl rfl _ rfl 35 _ _ _ KD.out Try.underlying35 rfl (by kernel_rfl) ?_)
          refine HEN.out.mono ?_
          rintro ez w7 ⟨v7, l7, rfl, o7, p7, q7, b7⟩
          rw [HCK.out]
          obtain rfl : l7 = l := (p7 HCK.out).trans HNC.out
          obtain ⟨A7, c7, rfl, r7⟩ := o7.reads
          have HSB := Lib.hid (fun W (hW : w7 = W) => sameBytes A7 D l7 c7 e W (hW ▸ r7) (hW ▸ (RB.below HRB.out b7)))
          have B8 := Lib.hid (below_all B7.out b7)
          clear o7 p7 q7 r7 b7 HEN KD HCK HNC B6
          go_wp2_with fail
          refine (HSB.out _ rfl).mono ?_
          rintro ez w8 ⟨rfl, rfl⟩
          clear HSB
          go_wp2_with fail
          refine (alive7 _).mono ?_
          rintro ez w9 ⟨rfl, hb9⟩
          go_wp2_with fail
          go_ret
          exact ⟨rfl, below_all B8.out hb9⟩
        · as_aux_lemma =>
          obtain ⟨hn6, hm6, -⟩ := o6.1 hz6
          subst hn6 hm6
          have hz2 : (rdF l != 0) = true := by rw [bne_iff_ne]; exact hz6
          have hz3 : (rdF l == 0) = false := beq_eq_false_iff_ne.2 hz6
          have y0 : (w6.alloc (.cells #[.slice A6 0 c6, .slice Y6 0 d6, .int .i64 (x6 0), .int .i64 (x6 1), .int .i64 (x6 2), .int .i64 (x6 3), .int .i64 (x6 4), .int .i64 (x6 5)] 35)).cell? ⟨w6.heap.size, 0, none⟩ = some (.slice A6 0 c6) := cell_heap (heap_new w6 _) rfl
          have y1 : (w6.alloc (.cells #[.slice A6 0 c6, .slice Y6 0 d6, .int .i64 (x6 0), .int .i64 (x6 1), .int .i64 (x6 2), .int .i64 (x6 3), .int .i64 (x6 4), .int .i64 (x6 5)] 35)).cell? ⟨w6.heap.size, 1, none⟩ = some (.slice Y6 0 d6) := cell_heap (heap_new w6 _) rfl
          have B7 := Lib.hid (B6.out.alloc B6.out.size (.cells #[.slice A6 0 c6, .slice Y6 0 d6, .int .i64 (x6 0), .int .i64 (x6 1), .int .i64 (x6 2), .int .i64 (x6 3), .int .i64 (x6 4), .int .i64 (x6 5)] 35))
          clear o6 k6 b6 hz6
          generalize rdF l = ff at hz2 hz3 ⊢
          go_wp2_with fail
          refine (alive7 _).mono ?_
          rintro ez w9 ⟨rfl, hb9⟩
          go_wp2_with fail
          go_ret
          exact ⟨rfl, below_all B7.out hb9⟩
      · as_aux_lemma =>
        have hz2 : (chkF n S m R x != 0) = true := by rw [bne_iff_ne]; exact hz
        have hz3 : (chkF n S m R x == 0) = false := beq_eq_false_iff_ne.2 hz
        clear hz P2 N2 R3 K3
        generalize chkF n S m R x = ff at hz2 hz3 ⊢
        go_wp2_with fail
        refine (gread_any D l e hc0 HLE.out _ (RB.below HR.out B3.out)).mono ?_
        rintro ez w6 ⟨A6, n6, c6, Y6, m6, d6, S6, R6, x6, rfl, k6, o6, b6⟩
        have B6 := Lib.hid (below_all B3.out b6)
        by_cases hz6 : rdF l = 0
        · as_aux_lemma =>
          obtain ⟨hchk, henc⟩ := rd_enc o6 hz6
          rw [hz6]
          have KD := Lib.hid (heap_new w6 (.cells #[.slice A6 n6 c6, .slice Y6 m6 d6, .int .i64 (x6 0), .int .i64 (x6 1), .int .i64 (x6 2), .int .i64 (x6 3), .int .i64 (x6 4), .int .i64 (x6 5)] 35))
          have HEN := Lib.hid (encode_any A6 n6 c6 Y6 m6 d6 S6 R6 x6 (w6.alloc (.cells #[.slice A6 n6 c6, .slice Y6 m6 d6, .int .i64 (x6 0), .int .i64 (x6 1), .int .i64 (x6 2), .int .i64 (x6 3), .int .i64 (x6 4), .int .i64 (x6 5)] 35)) (k6.below ((Below.refl _ _).alloc (Nat.le_refl _) _)))
          have HRB := Lib.hid (RB.below (RB.below HR.out B6.out) ((Below.refl w6.heap.size w6).alloc (Nat.le_refl _) (.cells #[.slice A6 n6 c6, .slice Y6 m6 d6, .int .i64 (x6 0), .int .i64 (x6 1), .int .i64 (x6 2), .int .i64 (x6 3), .int .i64 (x6 4), .int .i64 (x6 5)] 35)))
          have B7 := Lib.hid (B6.out.alloc B6.out.size (.cells #[.slice A6 n6 c6, .slice Y6 m6 d6, .int .i64 (x6 0), .int .i64 (x6 1), .int .i64 (x6 2), .int .i64 (x6 3), .int .i64 (x6 4), .int .i64 (x6 5)] 35))
          have HCK := Lib.hid hchk
          have HNC := Lib.hid henc
          clear o6 k6 b6 hz6 hchk henc
          go_wp2_with (refine wpList_load_blk 35 (.tmp 11) rfl rfl _ rfl 35 _ _ _ KD.out Try.underlying35 rfl (by kernel_rfl) ?_)
          refine HEN.out.mono ?_
          rintro ez w7 ⟨v7, l7, rfl, o7, p7, q7, b7⟩
          rw [HCK.out]
          obtain rfl : l7 = l := (p7 HCK.out).trans HNC.out
          obtain ⟨A7, c7, rfl, r7⟩ := o7.reads
          have HSB := Lib.hid (fun W (hW : w7 = W) => sameBytes A7 D l7 c7 e W (hW ▸ r7) (hW ▸ (RB.below HRB.out b7)))
          have B8 := Lib.hid (below_all B7.out b7)
          clear o7 p7 q7 r7 b7 HEN KD HCK HNC B6
          go_wp2_with fail
          refine (HSB.out _ rfl).mono ?_
          rintro ez w8 ⟨rfl, rfl⟩
          clear HSB
          go_wp2_with fail
          refine (alive7 _).mono ?_
          rintro ez w9 ⟨rfl, hb9⟩
          go_wp2_with fail
          go_ret
          exact ⟨rfl, below_all B8.out hb9⟩
        · as_aux_lemma =>
          obtain ⟨hn6, hm6, -⟩ := o6.1 hz6
          subst hn6 hm6
          have hz2 : (rdF l != 0) = true := by rw [bne_iff_ne]; exact hz6
          have hz3 : (rdF l == 0) = false := beq_eq_false_iff_ne.2 hz6
          have y0 : (w6.alloc (.cells #[.slice A6 0 c6, .slice Y6 0 d6, .int .i64 (x6 0), .int .i64 (x6 1), .int .i64 (x6 2), .int .i64 (x6 3), .int .i64 (x6 4), .int .i64 (x6 5)] 35)).cell? ⟨w6.heap.size, 0, none⟩ = some (.slice A6 0 c6) := cell_heap (heap_new w6 _) rfl
          have y1 : (w6.alloc (.cells #[.slice A6 0 c6, .slice Y6 0 d6, .int .i64 (x6 0), .int .i64 (x6 1), .int .i64 (x6 2), .int .i64 (x6 3), .int .i64 (x6 4), .int .i64 (x6 5)] 35)).cell? ⟨w6.heap.size, 1, none⟩ = some (.slice Y6 0 d6) := cell_heap (heap_new w6 _) rfl
          have B7 := Lib.hid (B6.out.alloc B6.out.size (.cells #[.slice A6 0 c6, .slice Y6 0 d6, .int .i64 (x6 0), .int .i64 (x6 1), .int .i64 (x6 2), .int .i64 (x6 3), .int .i64 (x6 4), .int .i64 (x6 5)] 35))
          clear o6 k6 b6 hz6
          generalize rdF l = ff at hz2 hz3 ⊢
          go_wp2_with fail
          refine (alive7 _).mono ?_
          rintro ez w9 ⟨rfl, hb9⟩
          go_wp2_with fail
          go_ret
          exact ⟨rfl, below_all B7.out hb9⟩
  · rw [Bool.not_eq_true] at l1
    rw [l1] at HL1
    clear l1 HCF HR
    go_enter Try.func7, Try.ntmps7
    go_wp2_with (refine wpList_load_blk 35 (.tmp 2) rfl rfl _ rfl 35 _ _ _ K0.out Try.underlying35 rfl (by kernel_rfl) ?_)
    refine (HL1.out _).mono ?_
    rintro ez w1 ⟨rfl, hb1⟩
    have B1 := Lib.hid (below_all HB.out hb1)
    clear hb1
    go_wp2_with fail
    refine (alive7 _).mono ?_
    rintro ez w9 ⟨rfl, hb9⟩
    go_wp2_with fail
    go_ret
    exact ⟨rfl, below_all B1.out hb9⟩
end Go.Proofs.Ythhkcckikmldcaa
