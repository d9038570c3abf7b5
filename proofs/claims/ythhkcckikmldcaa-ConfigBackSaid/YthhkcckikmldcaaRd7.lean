/-
  Reading: the contract of the program's Read. (Written by gen_rd7.py, a program of this session's own.)
-/
import Derived.Test.YthhkcckikmldcaaRd6
set_option linter.unusedVariables false
set_option linter.unusedSimpArgs false
namespace Go.Proofs.Ythhkcckikmldcaa
open Go.RowKit

theorem own1_form {B : Nat} {v : Value} {l : List UInt8} {w : World} (h : Own1 B v l w) : ∃ A c, v = .slice A l.length c ∧ RB w A l ∧ l.length ≤ c := by
  obtain ⟨A, c, rfl, hr⟩ := h.reads
  refine ⟨A, c, rfl, hr, ?_⟩
  unfold Own1 at h
  rcases h.2 with ⟨_, h0⟩ | ⟨g, cap, cur, hv, _, _, hn, _⟩
  · omega
  · injection hv with _ _ e3
    omega

set_option maxHeartbeats 1000000 in
theorem newreader_any (A : Option Addr) (l : List UInt8) (c : Nat) (hc0 : A = none → c = 0) (hl : l.length ≤ 1000000) (w : World) (h : RB w A l) :
    Calls Try.prog 71 #[.slice A l.length c] w fun e w' => ∃ (w1 : World) (A1 : Option Addr) (c1 : Nat), e = .returned (.pointer (some ⟨w1.heap.size, 0, none⟩)) ∧ w' = w1.alloc (.cells #[.slice A1 l.length c1, .int .i64 0] 160) ∧ Below w.heap.size w w1 ∧ RB w1 A1 l ∧ l.length ≤ c1 := by
  have HC := Lib.hid (clone_any A l c hc0 hl w h)
  clear h hc0
  go_enter Try.func71, Try.ntmps71
  go_wp2_with fail
  refine HC.out.mono ?_
  rintro e w1 ⟨v, rfl, ho, hb⟩
  obtain ⟨A1, c1, rfl, k1, k2⟩ := own1_form ho
  have HB := Lib.hid hb
  have H1 := Lib.hid k1
  have H2 := Lib.hid k2
  clear ho hb k1 k2 HC
  go_wp2_with fail
  go_ret
  exact ⟨w1, A1, c1, rfl, rfl, HB.out, H1.out, H2.out⟩

theorem gstart_rd (A : Option Addr) (l : List UInt8) (c : Nat) (hl : l.length ≤ 1000000) (hc : l.length ≤ c) (w1 : World) (h : RB w1 A l) : RdG w1 w1.heap.size (l, 0, false) (((w1.alloc (.cells #[.slice A l.length c, .int .i64 0] 160)).alloc (.cells #[.pointer (some ⟨w1.heap.size, 0, none⟩), .bool false] 108)).alloc (.cells #[.slice none 0 0, .slice none 0 0, .int .i64 0, .int .i64 0, .int .i64 0, .int .i64 0, .int .i64 0, .int .i64 0] 35)) :=
  ⟨alloc_old _ (alloc_new _ (by simp)), l, ⟨Nat.le_refl _, below_al (below_al (below_al (Below.refl _ _) _) _) _, hl, A, c, alloc_old _ (alloc_old _ (heap_new _ _)), h, hc⟩, fun _ => rfl⟩
theorem gstart_ci (A : Option Addr) (l : List UInt8) (c : Nat) (w w1 : World) (hb : Below (w.alloc (.cells #[.slice none 0 0, .slice none 0 0, .int .i64 0, .int .i64 0, .int .i64 0, .int .i64 0, .int .i64 0, .int .i64 0] 35)).heap.size (w.alloc (.cells #[.slice none 0 0, .slice none 0 0, .int .i64 0, .int .i64 0, .int .i64 0, .int .i64 0, .int .i64 0, .int .i64 0] 35)) w1) (S R : Nat → Nat → Int) :
    CI w (w1.heap.size + 1 + 1) (w1.heap.size + 3) (.slice none 0 0) (.slice none 0 0) 0 0 S R (fun _ => 0) (((w1.alloc (.cells #[.slice A l.length c, .int .i64 0] 160)).alloc (.cells #[.pointer (some ⟨w1.heap.size, 0, none⟩), .bool false] 108)).alloc (.cells #[.slice none 0 0, .slice none 0 0, .int .i64 0, .int .i64 0, .int .i64 0, .int .i64 0, .int .i64 0, .int .i64 0] 35)) := by
  have hs := hb.size
  simp only [World.size_alloc] at hs
  have hw : Below w.heap.size w w1 := (below_al (Below.refl w.heap.size w) (.cells #[.slice none 0 0, .slice none 0 0, .int .i64 0, .int .i64 0, .int .i64 0, .int .i64 0, .int .i64 0, .int .i64 0] 35)).trans (hb.mono (by simp))
  exact ⟨below_al (below_al (below_al hw _) _) _, alloc_old _ (alloc_old _ (alloc_old _ (block_keep hb (by simp) (heap_new w _)))), alloc_new _ (by simp), World.ownsRow_nil _ _ _ _, World.ownsRow_nil _ _ _ _, by omega, by simp⟩
theorem gcount8 (w0 : World) (B : Nat) (s : St) (w : World) (h : RdG w0 B s w) :
    Calls Try.prog 73 #[.pointer (some ⟨B + 1, 0, none⟩), .int .u64 8] w fun e w' => (∃ z : Int, e = .returned (.tuple #[.int .i64 z, .bool (decide ((raw s).1 ≤ 8))]) ∧ ((raw s).1 ≤ 8 → z = ((raw s).1 : Int))) ∧ RdG w0 B (raw s).2 w' ∧ KG B w w' := gcount_any 8 (by omega) w0 B s w h
theorem gcount20 (w0 : World) (B : Nat) (s : St) (w : World) (h : RdG w0 B s w) :
    Calls Try.prog 73 #[.pointer (some ⟨B + 1, 0, none⟩), .int .u64 20] w fun e w' => (∃ z : Int, e = .returned (.tuple #[.int .i64 z, .bool (decide ((raw s).1 ≤ 20))]) ∧ ((raw s).1 ≤ 20 → z = ((raw s).1 : Int))) ∧ RdG w0 B (raw s).2 w' ∧ KG B w w' := gcount_any 20 (by omega) w0 B s w h
section
variable {w w1 wr w2 : World} {q C base : Nat} {v0 v1 : Value} {n m : Nat} {S R : Nat → Nat → Int} {x : Nat → Int} {s : St}
theorem CI.kg (h : CI w C base v0 v1 n m S R x wr) (hw : Below w.heap.size w w1 ∧ w.heap.size < q ∧ q + 1 < C) (hd : RdG w1 q s w2) (hg : KG q wr w2) : CI w C base v0 v1 n m S R x w2 := by
  obtain ⟨_, l, hd1, _⟩ := hd
  exact h.keep (hw.1.trans (hd1.2.1.mono hw.1.size)) hg.1 (fun k hk hor => hg.2 k hk (by omega) (by omega))
theorem RdG.grown {row : Option Nat} (h : RdG w1 q s wr) (hg : wr.grownBy w2 row) (hr : ∀ k, row = some k → w1.heap.size ≤ k ∧ k ≠ q ∧ k ≠ q + 1) : RdG w1 q s w2 := by
  obtain ⟨h1, l, h2, h3⟩ := h
  exact ⟨grown_keep hg h1 (fun e => (hr _ e.symm).2.2 rfl), l, h2.grown hg (fun k e => ⟨(hr k e).1, (hr k e).2.1⟩), h3⟩
theorem RdG.under (h : RdG w1 q s wr) (hb : Below wr.heap.size wr w2) : RdG w1 q s w2 := h.grown (row := none) ⟨hb.os, hb.tape, hb.output, hb.size, fun k hk _ => hb.block k hk⟩ (fun k e => by cases e)
theorem RdG.alloc (h : RdG w1 q s wr) (o : Obj) : RdG w1 q s (wr.alloc o) := h.under ((Below.refl _ _).alloc (Nat.le_refl _) o)
theorem RdG.drew (h : RdG w1 q s wr) : RdG w1 q s wr.drew := h.under (below_drewN (Below.refl _ _) 1)
theorem RdG.lt (h : RdG w1 q s wr) : q + 1 < wr.heap.size := lt_of_heap h.1
/-- Another block is written. -/
theorem CI.grown (h : CI w C base v0 v1 n m S R x wr) {Q : Nat} (hg : wr.grownBy w2 (some Q)) (hQ : w.heap.size < Q ∧ Q ≠ C) (h0 : v0.ownBlock ≠ some Q) (h1 : v1.ownBlock ≠ some Q) : CI w C base v0 v1 n m S R x w2 :=
  ⟨h.below.grown hg h.below.size (fun k e => by cases e; omega), grown_keep hg h.res (fun e => by injection e with e; omega), grown_keep hg h.cfg (fun e => by injection e with e; omega), h.syms.kept hg (.inr h0), h.rows.kept hg (.inr h1), h.hC, Nat.le_trans h.hb hg.size⟩
theorem CI.late0 (h : CI w C base v0 v1 n m S R x wr) : v0.ownBlock ≠ some wr.heap.size := fun e => by have := h.syms.lt _ e; omega
theorem CI.late1 (h : CI w C base v0 v1 n m S R x wr) : v1.ownBlock ≠ some wr.heap.size := fun e => by have := h.rows.lt _ e; omega
theorem KG.keep (h : KG q wr w2) {k : Nat} {o : Obj} (hk : wr.heap[k]? = some o) (h1 : k ≠ q ∧ k ≠ q + 1) : w2.heap[k]? = some o := (h.2 k (lt_of_heap hk) h1.1 h1.2).trans hk
theorem RdG.app0 (h : RdG w1 q s wr) (hq : w1.heap.size ≤ q ∧ q + 1 < C) (hc : CI w C base v0 v1 n m S R x wr) {o : Obj} (hg : (wr.alloc o).grownBy w2 v0.ownBlock) (j : Nat) (v : Value) : RdG w1 q s (w2.setCell ⟨C, j, none⟩ v) :=
  ((h.alloc o).grown hg (fun k e => by have := hc.row_lt hc.syms k e; omega)).grown (Lib.grownBy_setCell w2 C j v) (fun k e => by cases e; omega)
theorem RdG.app1 (h : RdG w1 q s wr) (hq : w1.heap.size ≤ q ∧ q + 1 < C) (hc : CI w C base v0 v1 n m S R x wr) {o : Obj} (hg : (wr.alloc o).grownBy w2 v1.ownBlock) (j : Nat) (v : Value) : RdG w1 q s (w2.setCell ⟨C, j, none⟩ v) :=
  ((h.alloc o).grown hg (fun k e => by have := hc.row_lt hc.rows k e; omega)).grown (Lib.grownBy_setCell w2 C j v) (fun k e => by cases e; omega)
theorem CI.setx2 {g : Nat → Int} {k : Nat} (h : CI w C base v0 v1 n m S R (xs g k) wr) (hk : k < 6) (hg : wr.grownBy w2 (some C)) (hC : w2.heap[C]? = some (.cells ((#[v0, v1, .int .i64 (xs g k 0), .int .i64 (xs g k 1), .int .i64 (xs g k 2), .int .i64 (xs g k 3), .int .i64 (xs g k 4), .int .i64 (xs g k 5)] : Array Value).setIfInBounds (2 + k) (.int .i64 (g k))) 35 (0, 0))) : CI w C base v0 v1 n m S R (xs g (k + 1)) w2 := by
  have h1 := h.hC
  refine ⟨h.below.grown hg h.below.size (fun k e => by cases e; omega), grown_keep hg h.res (fun e => by injection e with e; omega), ?_, h.syms.kept hg (.inr (fun e => by have := h.row_lt h.syms _ e; omega)), h.rows.kept hg (.inr (fun e => by have := h.row_lt h.rows _ e; omega)), h1, Nat.le_trans h.hb hg.size⟩
  rw [hC]
  rcases (by omega : k = 0 ∨ k = 1 ∨ k = 2 ∨ k = 3 ∨ k = 4 ∨ k = 5) with rfl | rfl | rfl | rfl | rfl | rfl <;> simp [xs]
theorem cfg_at (v0 v1 : Value) (x : Nat → Int) (k : Nat) (hk : k < 6) : (#[v0, v1, .int .i64 (x 0), .int .i64 (x 1), .int .i64 (x 2), .int .i64 (x 3), .int .i64 (x 4), .int .i64 (x 5)] : Array Value)[2 + k]? = some (.int .i64 (x k)) := by
  rcases (by omega : k = 0 ∨ k = 1 ∨ k = 2 ∨ k = 3 ∨ k = 4 ∨ k = 5) with rfl | rfl | rfl | rfl | rfl | rfl <;> rfl
end
theorem p_one {l : List UInt8} (h : oN l ≤ 8) : dN l = oN l ∧ dA l = (raw (l, 0, false)).2 := by
  have e1 : cntD 8 (l, 0, false) = raw (l, 0, false) := cnt_ok (by omega) rfl h
  exact ⟨by unfold dN; rw [e1]; rfl, by unfold dA; rw [e1]⟩
theorem p_oM {l : List UInt8} (h : oN l ≤ 8) : oM l = (raw (dT l)).1 := by
  obtain ⟨h1, h2⟩ := p_one h
  have e3 : dA l = stn 1 (l, 0, false) := by
    rw [h2, ← stp_raw (s := (l, 0, false)) (by show oN l ≤ _; omega)]
    rfl
  have e4 : dT l = stn (1 + 16 * oN l) (l, 0, false) := by unfold dT; rw [h1, e3, ← stn_add]
  rw [e4]
  rfl
theorem p_two {l : List UInt8} (h : (raw (dT l)).1 ≤ 20) : dMm l = (raw (dT l)).1 ∧ dB l = (raw (dT l)).2 := by
  have e := rows_ok h
  have e2 := stp_raw (s := dT l) (by omega)
  exact ⟨by unfold dMm; rw [e, e2], by unfold dB; rw [e, e2]⟩
theorem p_bad1 {l : List UInt8} (h : 8 < oN l) : rdF l = 4 := by unfold rdF; rw [if_pos h]
theorem p_bad2 {l : List UInt8} (h0 : oN l ≤ 8) (h : 20 < (raw (dT l)).1) : rdF l = 4 := by
  rw [← p_oM h0] at h
  unfold rdF
  rw [if_neg (by omega), if_pos h]

set_option maxRecDepth 100000 in
set_option maxHeartbeats 16000000 in
theorem gread_any (A : Option Addr) (l : List UInt8) (c : Nat) (hc0 : A = none → c = 0) (hl : l.length ≤ 1000000) (w : World) (h : RB w A l) :
    Calls Try.prog 28 #[.slice A l.length c] w (RdPost l w) := by
  have HNR := Lib.hid (newreader_any A l c hc0 hl (w.alloc (.cells #[.slice none 0 0, .slice none 0 0, .int .i64 0, .int .i64 0, .int .i64 0, .int .i64 0, .int .i64 0, .int .i64 0] 35)) (h.below ((Below.refl _ _).alloc (Nat.le_refl _) _)))
  have hmf : ∀ (fn : Fn) (first cap : Array Value) (w : World), (Instr.makeFunc fn first cap).run Try.prog w = .ok (.func fn first cap) w := fun _ _ _ _ => rfl
  have HO := Lib.hid (doc_out l)
  have HL := Lib.hid hl
  clear hl hc0 h
  obtain ⟨EP, hEP⟩ : ∃ EP : Ending → World → Prop, EP = RdPost l w := ⟨_, rfl⟩
  rw [← hEP]
  have HEP := Lib.hid hEP
  clear hEP
  go_enter Try.func28, Try.ntmps28
  go_wp2_with fail
  refine HNR.out.mono ?_
  rintro e wz ⟨w1, A1, c1, rfl, rfl, hb, hr1, hc1⟩
  have D0 := Lib.hid (gstart_rd A1 l c1 HL.out hc1 w1 hr1)
  have I0 := Lib.hid (gstart_ci A1 l c1 w w1 hb (fun i j => (vl (dA l) (16 * i + j) : Int)) (fun i j => (vl (dB l) (2 * i + j) : Int)))
  have hs := hb.size
  simp only [World.size_alloc] at hs
  have HW : Hid (Below w.heap.size w w1 ∧ w.heap.size < w1.heap.size ∧ w1.heap.size + 1 < w1.heap.size + 1 + 1) := Lib.hid ⟨(below_al (Below.refl w.heap.size w) (.cells #[.slice none 0 0, .slice none 0 0, .int .i64 0, .int .i64 0, .int .i64 0, .int .i64 0, .int .i64 0, .int .i64 0] 35)).trans (hb.mono (by simp)), by omega, by omega⟩
  have HQ0 : Hid (w1.heap.size ≤ w1.heap.size ∧ w1.heap.size + 1 < w1.heap.size + 1 + 1) := Lib.hid ⟨Nat.le_refl _, by omega⟩
  clear hb hr1 hc1 hs HNR HL
  go_wp2_with fail
  refine (gcount8 w1 w1.heap.size (l, 0, false) _ D0.out).mono ?_
  rintro e w3 ⟨⟨z, rfl, hz⟩, d3, k3⟩
  have D1 := Lib.hid d3
  have I1 := Lib.hid (I0.out.kg HW.out d3 k3)
  clear d3 k3 D0 I0
  by_cases hN : oN l ≤ 8
  · have hdec : decide ((raw (l, 0, false)).1 ≤ 8) = true := decide_eq_true hN
    rw [hdec]
    obtain rfl : z = (oN l : Int) := hz hN
    obtain ⟨e1, e2⟩ := p_one hN
    rw [← e2] at D1
    rw [← e1]
    have HN := Lib.hid hN
    have hN1 : dN l ≤ 8 := dN_le l
    have HSx : ∀ i j, (fun i j => (vl (dA l) (16 * i + j) : Int)) i j = (vl (dA l) (16 * i + j) : Int) := fun _ _ => rfl
    have HRx : ∀ i j, (fun i j => (vl (dB l) (2 * i + j) : Int)) i j = (vl (dB l) (2 * i + j) : Int) := fun _ _ => rfl
    clear hz hdec e1 e2 hN
    generalize (fun i j => (vl (dA l) (16 * i + j) : Int)) = S at HO I1 HSx
    generalize (fun i j => (vl (dB l) (2 * i + j) : Int)) = R at HO I1 HRx
    have HS := Lib.hid HSx
    have HR := Lib.hid HRx
    clear HSx HRx
    generalize hdn : dN l = n at HO hN1 ⊢
    have HDN := Lib.hid hdn
    clear hdn
    have hqq : w1.heap.size + 1 < w1.heap.size + 1 + 1 := by omega
    generalize w1.heap.size + 1 + 1 = C at I1 HW HQ0 hqq ⊢
    generalize w1.heap.size + 3 = base at I1
    generalize hq : w1.heap.size = q at D1 HW HQ0 hqq ⊢
    have HQ1 : Hid (w1.heap.size ≤ q ∧ q + 1 < C) := Lib.hid ⟨by omega, hqq⟩
    clear HQ0 hq hqq
    go_wp2_with fail
    go_loopw [33] (fun s wr => ∃ (i : Nat) (v : Value), i ≤ n ∧ s = .int .i64 (i : Int) ∧ Hid (RdG w1 q (stn (16 * i) (dA l)) wr) ∧ Hid (CI w C base v (.slice none 0 0) i 0 S R (fun _ => 0) wr)) (fun s _ => n - (intOf s).toNat)
    case atStart => exact ⟨0, _, Nat.zero_le _, rfl, D1, I1⟩
    case round =>
      obtain ⟨i, v, hi, rfl, HD, HI⟩ := hrel
      by_cases hlt : i < n
      · have hlt' : (i : Int) < (n : Int) := by omega
        have HQ : Hid ((wr.alloc (.cells #[.int .i64 0, .int .i64 0, .int .i64 0, .int .i64 0, .int .i64 0, .int .i64 0, .int .i64 0, .int .i64 0, .int .i64 0, .int .i64 0, .int .i64 0, .int .i64 0, .int .i64 0, .int .i64 0, .int .i64 0, .int .i64 0] 56)).heap[wr.heap.size]? = some (.cells (mixA (S i) 0) 56 (0, 0))) := Lib.hid (by rw [mix_0]; exact heap_new _ _)
        have HD2 := Lib.hid (HD.out.alloc (.cells #[.int .i64 0, .int .i64 0, .int .i64 0, .int .i64 0, .int .i64 0, .int .i64 0, .int .i64 0, .int .i64 0, .int .i64 0, .int .i64 0, .int .i64 0, .int .i64 0, .int .i64 0, .int .i64 0, .int .i64 0, .int .i64 0] 56))
        have HI2 := Lib.hid (HI.out.alloc (.cells #[.int .i64 0, .int .i64 0, .int .i64 0, .int .i64 0, .int .i64 0, .int .i64 0, .int .i64 0, .int .i64 0, .int .i64 0, .int .i64 0, .int .i64 0, .int .i64 0, .int .i64 0, .int .i64 0, .int .i64 0, .int .i64 0] 56))
        have HQ2 : Hid (w.heap.size < wr.heap.size ∧ wr.heap.size ≠ C ∧ w1.heap.size ≤ wr.heap.size ∧ wr.heap.size ≠ q ∧ wr.heap.size ≠ q + 1 ∧ v.ownBlock ≠ some wr.heap.size) := Lib.hid (by
          have a1 := HI.out.hb
          have a2 := HI.out.hC
          have a3 := HD.out.lt
          have a4 := HQ1.out
          exact ⟨by omega, by omega, by omega, by omega, by omega, HI.out.late0⟩)
        clear HD HI
        go_wp2_with fail
        generalize wr.alloc (.cells #[.int .i64 0, .int .i64 0, .int .i64 0, .int .i64 0, .int .i64 0, .int .i64 0, .int .i64 0, .int .i64 0, .int .i64 0, .int .i64 0, .int .i64 0, .int .i64 0, .int .i64 0, .int .i64 0, .int .i64 0, .int .i64 0] 56) = wa at HQ HD2 HI2 ⊢
        generalize wr.heap.size = Q at HQ HQ2 ⊢
        refine (cells_any Q wa).mono ?_
        rintro e wc ⟨rfl, hbc⟩
        have HQ3 := Lib.hid (block_keep hbc (lt_of_heap HQ.out) HQ.out)
        have HD3 := Lib.hid (HD2.out.under hbc)
        have HI3 := Lib.hid (HI2.out.under hbc)
        clear hbc HQ HD2 HI2
        go_wp2_with fail
        go_loopw [36] (fun s wq => ∃ j : Nat, j ≤ 16 ∧ s = .int .i64 (j : Int) ∧ Hid (RdG w1 q (stn (16 * i + j) (dA l)) wq) ∧ Hid (CI w C base v (.slice none 0 0) i 0 S R (fun _ => 0) wq) ∧ Hid (wq.heap[Q]? = some (.cells (mixA (S i) j) 56 (0, 0)))) (fun s _ => 16 - (intOf s).toNat)
        case atStart => exact ⟨0, by omega, rfl, HD3, HI3, HQ3⟩
        case round =>
          obtain ⟨j, hj, rfl, HDj, HIj, HQj⟩ := hrel
          by_cases hlj : j < 16
          · have hlj' : (j : Int) < 16 := by omega
            have hix := cellsV_at Q j hlj
            have HSET := Lib.hid (fun (W : World) (hW : W.heap[Q]? = some (.cells (mixA (S i) j) 56 (0, 0))) => set_any (lgS j) Q j (mixA (S i) j) 56 (S i j) _ W hW (mix_at (S i) j j hlj))
            generalize ptL (lgS j) ⟨Q, j, none⟩ = p1 at hix HSET
            generalize ptL (!lgS j) ⟨Q, j, none⟩ = p2 at hix HSET
            generalize cellsV Q = cv at hix
            have HX := Lib.hid (heap_new wr (.cells #[.pointer p1, .pointer p2] 116))
            have HDa := Lib.hid (HDj.out.alloc (.cells #[.pointer p1, .pointer p2] 116))
            have HIa := Lib.hid (HIj.out.alloc (.cells #[.pointer p1, .pointer p2] 116))
            have HQa := Lib.hid (alloc_old (.cells #[.pointer p1, .pointer p2] 116) HQj.out)
            have HX2 : Hid (wr.heap.size ≠ q ∧ wr.heap.size ≠ q + 1 ∧ wr.heap.size ≠ Q) := Lib.hid (by
              have a1 := HDj.out.lt
              have a2 := lt_of_heap HQj.out
              exact ⟨by omega, by omega, by omega⟩)
            go_wp2_with fail
            generalize wr.alloc (.cells #[.pointer p1, .pointer p2] 116) = Wa at HX HDa HIa HQa ⊢
            generalize wr.heap.size = X at HX HX2 ⊢
            have G0 := Lib.hid HIa.out.drew
            have G1 := Lib.hid HDa.out.drew
            have GX := Lib.hid (drew_heapE HX.out)
            have GQ := Lib.hid (drew_heapE HQa.out)
            clear hix HDj HIj HQj HDa HIa HQa
            refine wp_region_held_drew (S := (fun w' => w'.heap[X]? = some (.cells #[.pointer p1, .pointer p2] 116 (0, 0)))) (by kernel_rfl) ?hSa1 (fun hHeld => ?ra1)
            case hSa1 => exact GX.out
            show wpAnyH Try.prog .any _ _ _ 4 #[false, false, false, false] _ _
            refine wpAnyH_take (i := 0) (oi := ?oia2) (v := .agg #[.pointer p1, .pointer p2]) ?hia2 (by as_aux_lemma => kernel_rfl) (by as_aux_lemma => kernel_rfl) (by as_aux_lemma => kernel_rfl) ?hQa2 ?hya2 (by assumption) ?ra2
            case hia2 => (simp only [List.getElem?_toArray, List.getElem?_cons_succ, List.getElem?_cons_zero]; rfl)
            case hQa2 => exact fun _ _ _ h => h
            case hya2 => exact yields_blk rfl 116 (.tmp 11) rfl X rfl [.pointer p1, .pointer p2] 116 _ (fun w h => h) Try.underlying116 rfl (by kernel_rfl)
            (try simp only [Act.put, List.setIfInBounds_toArray, List.set_cons_zero, List.set_cons_succ])
            refine wpAnyH_take (i := 1) (oi := ?oia3) (v := .func (Fn.func 72) #[.pointer (some ⟨q + 1, 0, none⟩)] #[]) ?hia3 (by as_aux_lemma => kernel_rfl) (by as_aux_lemma => kernel_rfl) (by as_aux_lemma => kernel_rfl) ?hQa3 (Or.inl ⟨?hwa3, ?hya3⟩) (by assumption) ?ra3
            case hia3 => (simp only [List.getElem?_toArray, List.getElem?_cons_succ, List.getElem?_cons_zero]; rfl)
            case hQa3 => exact fun _ _ _ h => h
            case hwa3 => rfl
            case hya3 => (intro w hSw; exact (by as_aux_lemma => kernel_rfl))
            (try simp only [Act.put, List.setIfInBounds_toArray, List.set_cons_zero, List.set_cons_succ])
            refine wpAnyH_ready (rs := [2]) (by as_aux_lemma => kernel_rfl) (by simp) ?_
            refine AllReadyH.cons (o := ?oia4_2) ?hia4_2 ?hca4_2 AllReadyH.nil
            case hia4_2 => (simp only [List.getElem?_toArray, List.getElem?_cons_succ, List.getElem?_cons_zero]; rfl)
            case hca4_2 =>
              intro K hK
              go_simp
              go_at_call 72
              refine (gnum_any w1 q _ _ G1.out).mono ?_
              rintro e w5 ⟨rfl, d5, k5⟩
              have e5 : ((stp (stn (16 * i + j) (dA l))).1 : Int) = S i j := (HS.out i j).symm
              rw [e5]
              have J5 := Lib.hid (G0.out.kg HW.out d5 k5)
              have E5 := Lib.hid d5
              have X5 := k5.keep GX.out ⟨HX2.out.1, HX2.out.2.1⟩
              have Q5 := k5.keep GQ.out ⟨HQ2.out.2.2.2.1, HQ2.out.2.2.2.2.1⟩
              clear d5 k5 e5
              refine hK.out _ _ ?hSa7 (fun hHeld => ?ra7)
              case hSa7 => exact X5
              clear hK K
              (try simp only [Act.put, List.setIfInBounds_toArray, List.set_cons_zero, List.set_cons_succ])
              refine wpAnyH_ready (rs := [3]) (by as_aux_lemma => kernel_rfl) (by simp) ?_
              refine AllReadyH.cons (o := ?oia5_3) ?hia5_3 ?hca5_3 AllReadyH.nil
              case hia5_3 => (simp only [List.getElem?_toArray, List.getElem?_cons_succ, List.getElem?_cons_zero]; rfl)
              case hca5_3 =>
                intro K hK
                go_simp
                go_at_call 75
                refine (HSET.out _ Q5).mono ?_
                rintro e w6 ⟨rfl, q6, g6⟩
                have Q6 := Lib.hid (q6.trans (by rw [mix_set _ _ hlj]))
                have X6 := grown_keep g6 X5 (fun e => by injection e with e; exact HX2.out.2.2 e)
                have K6 := Lib.hid (J5.out.grown g6 ⟨HQ2.out.1, HQ2.out.2.1⟩ HQ2.out.2.2.2.2.2 (fun e => by cases e))
                have E6 := Lib.hid (E5.out.grown g6 (fun k e => by cases e; exact ⟨HQ2.out.2.2.1, HQ2.out.2.2.2.1, HQ2.out.2.2.2.2.1⟩))
                clear q6 g6
                refine hK.out _ _ ?hSa6 (fun hHeld => ?ra6)
                case hSa6 => exact X6
                clear hK K
                (try simp only [Act.put, List.setIfInBounds_toArray, List.set_cons_zero, List.set_cons_succ])
                refine wpAnyH_done (by as_aux_lemma => kernel_rfl) ?_ _
                go_wp2_with fail
                go_roundw
                case rel => exact ⟨j + 1, by omega, by go_num, Lib.hid (show RdG w1 q (stn (16 * i + (j + 1)) (dA l)) _ from E6.out), K6, Q6⟩
                case measure => simp [intOf]; omega
          · obtain rfl : j = 16 := by omega
            obtain ⟨i0, hhi, hz0, hz1, hz2⟩ := info_parts info56
            have Hhi := Lib.hid hhi
            have Hz0 := Lib.hid hz0
            have Hz1 := Lib.hid hz1
            have Hz2 := Lib.hid hz2
            have hi8 : i ≤ 7 := by omega
            have c0 := cell_heap (j := 0) HIj.out.cfg rfl
            have q0 := HQj.out
            rw [mix_16] at q0
            have QF := Lib.hid q0
            clear hhi hz0 hz1 hz2 q0
            go_wp2_with (first | (refine wpList_load_blk 56 _ rfl rfl _ rfl 56 _ _ _ QF.out Try.underlying56 rfl (by kernel_rfl) ?_) | (at_builtin; refine wpList_append_own _ rfl (.tmp 45) (.tmp 47) 31 rfl base 56 i0 (.agg #[.int .i64 0, .int .i64 0, .int .i64 0, .int .i64 0, .int .i64 0, .int .i64 0, .int .i64 0, .int .i64 0, .int .i64 0, .int .i64 0, .int .i64 0, .int .i64 0, .int .i64 0, .int .i64 0, .int .i64 0, .int .i64 0]) 16 128 Try.underlying31 Hhi.out Hz0.out Hz1.out Hz2.out rfl (by decide) v i (tabVs 16 S i) rfl (HIj.out.syms.alloc _) ⟨wr.heap.size, 0, none⟩ 1 1 [.int .i64 (S i 0), .int .i64 (S i 1), .int .i64 (S i 2), .int .i64 (S i 3), .int .i64 (S i 4), .int .i64 (S i 5), .int .i64 (S i 6), .int .i64 (S i 7), .int .i64 (S i 8), .int .i64 (S i 9), .int .i64 (S i 10), .int .i64 (S i 11), .int .i64 (S i 12), .int .i64 (S i 13), .int .i64 (S i 14), .int .i64 (S i 15)] rfl rfl (World.news_of_block (heap_new wr _)) (ones16 _) (by unfold maxLen; omega) (by omega) (by rw [World.size_alloc]; exact Nat.le_succ_of_le HIj.out.hb) ?_; intro v' w6 hown hgrow _; obtain ⟨g, cap, rfl, _, _⟩ := World.ownsRow.form hown (Nat.succ_pos _); have k6 := grown_keep hgrow (alloc_old _ HIj.out.cfg) (HIj.out.no0 (W := wr) HIj.out.cfg (by decide)); have c6 := cell_heap (j := 0) k6 rfl; have f6 := frozen_of k6 0; have K6 := Lib.hid (HIj.out.app0 hgrow hown); have E6 := Lib.hid (HDj.out.app0 HQ1.out HIj.out hgrow 0 (.slice (some ⟨g, 0, none⟩) (i + 1) cap)); clear hown hgrow k6 c0))
            go_roundw
            case rel => exact ⟨i + 1, _, by omega, by go_num, Lib.hid (show RdG w1 q (stn (16 * (i + 1)) (dA l)) _ from E6.out), K6⟩
            case measure => simp [intOf]; omega
      · obtain rfl : n = i := by omega
        have DT := Lib.hid (show RdG w1 q (dT l) wr by unfold dT; rw [HDN.out]; exact HD.out)
        clear HD D1 I1
        go_wp2_with fail
        refine (gcount20 w1 q _ _ DT.out).mono ?_
        rintro e w4 ⟨⟨z, rfl, hz⟩, d4, k4⟩
        have D2 := Lib.hid d4
        have I2 := Lib.hid (HI.out.kg HW.out d4 k4)
        clear d4 k4 DT HI
        by_cases hM : (raw (dT l)).1 ≤ 20
        · have hdec : decide ((raw (dT l)).1 ≤ 20) = true := decide_eq_true hM
          rw [hdec]
          obtain rfl : z = ((raw (dT l)).1 : Int) := hz hM
          obtain ⟨e1, e2⟩ := p_two hM
          rw [← e2] at D2
          rw [← e1]
          have hM1 : dMm l ≤ 20 := dMm_le l
          clear hz hdec e1 e2 hM
          generalize hdm : dMm l = m at HO hM1 ⊢
          have HDM := Lib.hid hdm
          clear hdm
          go_wp2_with fail
          go_loopw [60] (fun s wr => ∃ (p : Nat) (u : Value), p ≤ m ∧ s = .int .i64 (p : Int) ∧ Hid (RdG w1 q (stn (2 * p) (dB l)) wr) ∧ Hid (CI w C base v u n p S R (fun _ => 0) wr)) (fun s _ => m - (intOf s).toNat)
          case atStart => exact ⟨0, _, Nat.zero_le _, rfl, D2, I2⟩
          case round =>
            obtain ⟨p, u, hp, rfl, HD, HI⟩ := hrel
            by_cases hlt2 : p < m
            · have hlt2' : (p : Int) < (m : Int) := by omega
              go_wp2_with fail
              refine (gnum_any w1 q _ _ HD.out).mono ?_
              rintro e w5 ⟨rfl, d5, k5⟩
              have e5 : ((stp (stn (2 * p) (dB l))).1 : Int) = R p 0 := (HR.out p 0).symm
              rw [e5]
              have D3 := Lib.hid (show RdG w1 q (stn (2 * p + 1) (dB l)) w5 from d5)
              have I3 := Lib.hid (HI.out.kg HW.out d5 k5)
              clear d5 k5 e5 HD HI D2 I2
              go_wp2_with fail
              have G0 := Lib.hid I3.out.drew
              have G1 := Lib.hid D3.out.drew
              obtain ⟨i0, hhi, hz0, hz1, hz2⟩ := info_parts info53
              have Hhi := Lib.hid hhi
              have Hz0 := Lib.hid hz0
              have Hz1 := Lib.hid hz1
              have Hz2 := Lib.hid hz2
              clear hhi hz0 hz1 hz2
              have hq20 : p ≤ 20 := by omega
              refine wp_region_held_drew (S := (fun _ => True)) (by kernel_rfl) ?hSb1 (fun hHeld => ?rb1)
              case hSb1 => trivial
              show wpAnyH Try.prog .any _ _ _ 10 #[false, false, false, false, false, false, false, false, false, false] _ _
              refine wpAnyH_take (i := 0) (oi := ?oib2) (v := .pointer (some ⟨C, 1, none⟩)) ?hib2 (by as_aux_lemma => kernel_rfl) (by as_aux_lemma => kernel_rfl) (by as_aux_lemma => kernel_rfl) ?hQb2 (Or.inl ⟨?hwb2, ?hyb2⟩) (by assumption) ?rb2
              case hib2 => (simp only [List.getElem?_toArray, List.getElem?_cons_succ, List.getElem?_cons_zero]; rfl)
              case hQb2 => exact fun _ _ _ h => h
              case hwb2 => rfl
              case hyb2 => (intro w hSw; exact (by as_aux_lemma => kernel_rfl))
              (try simp only [Act.put, List.setIfInBounds_toArray, List.set_cons_zero, List.set_cons_succ])
              refine wpAnyH_take (i := 2) (oi := ?oib3) (v := .int .i64 (R p 0)) ?hib3 (by as_aux_lemma => kernel_rfl) (by as_aux_lemma => kernel_rfl) (by as_aux_lemma => kernel_rfl) ?hQb3 (Or.inl ⟨?hwb3, ?hyb3⟩) (by assumption) ?rb3
              case hib3 => (simp only [List.getElem?_toArray, List.getElem?_cons_succ, List.getElem?_cons_zero]; rfl)
              case hQb3 => exact fun _ _ _ h => h
              case hwb3 => rfl
              case hyb3 => (intro w hSw; exact (by as_aux_lemma => kernel_rfl))
              (try simp only [Act.put, List.setIfInBounds_toArray, List.set_cons_zero, List.set_cons_succ])
              refine wpAnyH_take (i := 3) (oi := ?oib4) (v := .func (Fn.func 72) #[.pointer (some ⟨q + 1, 0, none⟩)] #[]) ?hib4 (by as_aux_lemma => kernel_rfl) (by as_aux_lemma => kernel_rfl) (by as_aux_lemma => kernel_rfl) ?hQb4 (Or.inl ⟨?hwb4, ?hyb4⟩) (by assumption) ?rb4
              case hib4 => (simp only [List.getElem?_toArray, List.getElem?_cons_succ, List.getElem?_cons_zero]; rfl)
              case hQb4 => exact fun _ _ _ h => h
              case hwb4 => rfl
              case hyb4 => (intro w hSw; exact (by as_aux_lemma => kernel_rfl))
              (try simp only [Act.put, List.setIfInBounds_toArray, List.set_cons_zero, List.set_cons_succ])
              refine wpAnyH_ready (rs := [1, 4]) (by as_aux_lemma => kernel_rfl) (by simp) ?_
              refine AllReadyH.cons (o := ?oib5_1) ?hib5_1 ?hcb5_1 (AllReadyH.cons (o := ?oib5_4) ?hib5_4 ?hcb5_4 AllReadyH.nil)
              case hib5_1 => (simp only [List.getElem?_toArray, List.getElem?_cons_succ, List.getElem?_cons_zero]; rfl)
              case hib5_4 => (simp only [List.getElem?_toArray, List.getElem?_cons_succ, List.getElem?_cons_zero]; rfl)
              case hcb5_1 =>
                intro K hK
                have ha := cell_heap (j := 1) G0.out.cfg rfl
                go_simp
                refine hK.out _ _ ?hSb16 (fun hHeld => ?rb16)
                case hSb16 => trivial
                clear hK K
                (try simp only [Act.put, List.setIfInBounds_toArray, List.set_cons_zero, List.set_cons_succ])
                clear ha
                refine wpAnyH_ready (rs := [4]) (by as_aux_lemma => kernel_rfl) (by simp) ?_
                refine AllReadyH.cons (o := ?oib6_4) ?hib6_4 ?hcb6_4 AllReadyH.nil
                case hib6_4 => (simp only [List.getElem?_toArray, List.getElem?_cons_succ, List.getElem?_cons_zero]; rfl)
                case hcb6_4 =>
                  intro K hK
                  go_simp
                  go_at_call 72
                  refine (gnum_any w1 q _ _ G1.out).mono ?_
                  rintro e w5 ⟨rfl, d5, k5⟩
                  have e5 : ((stp (stn (2 * p + 1) (dB l))).1 : Int) = R p 1 := (HR.out p 1).symm
                  rw [e5]
                  have J5 := Lib.hid (G0.out.kg HW.out d5 k5)
                  have E5 := Lib.hid (show RdG w1 q (stn (2 * (p + 1)) (dB l)) w5 from d5)
                  clear d5 k5 e5
                  refine hK.out _ _ ?hSb15 (fun hHeld => ?rb15)
                  case hSb15 => trivial
                  clear hK K
                  (try simp only [Act.put, List.setIfInBounds_toArray, List.set_cons_zero, List.set_cons_succ])
                  refine wpAnyH_take (i := 5) (oi := ?oib7) (v := .agg #[.int .i64 (R p 0), .int .i64 (R p 1)]) ?hib7 (by as_aux_lemma => kernel_rfl) (by as_aux_lemma => kernel_rfl) (by as_aux_lemma => kernel_rfl) ?hQb7 (Or.inl ⟨?hwb7, ?hyb7⟩) (by assumption) ?rb7
                  case hib7 => (simp only [List.getElem?_toArray, List.getElem?_cons_succ, List.getElem?_cons_zero]; rfl)
                  case hQb7 => exact fun _ _ _ h => h
                  case hwb7 => rfl
                  case hyb7 => (intro w hSw; exact (by as_aux_lemma => kernel_rfl))
                  (try simp only [Act.put, List.setIfInBounds_toArray, List.set_cons_zero, List.set_cons_succ])
                  refine wpAnyH_ready (rs := [6]) (by as_aux_lemma => kernel_rfl) (by simp) ?_
                  refine AllReadyH.cons (o := ?oib8_6) ?hib8_6 ?hcb8_6 AllReadyH.nil
                  case hib8_6 => (simp only [List.getElem?_toArray, List.getElem?_cons_succ, List.getElem?_cons_zero]; rfl)
                  case hcb8_6 =>
                    intro K hK
                    go_simp
                    refine hK.out _ _ ?hSb14 (fun hHeld => ?rb14)
                    case hSb14 => trivial
                    clear hK K
                    (try simp only [Act.put, List.setIfInBounds_toArray, List.set_cons_zero, List.set_cons_succ])
                    refine wpAnyH_ready (rs := [7]) (by as_aux_lemma => kernel_rfl) (by simp) ?_
                    refine AllReadyH.cons (o := ?oib9_7) ?hib9_7 ?hcb9_7 AllReadyH.nil
                    case hib9_7 => (simp only [List.getElem?_toArray, List.getElem?_cons_succ, List.getElem?_cons_zero]; rfl)
                    case hcb9_7 =>
                      intro K hK
                      refine step_append_lies _ rfl (.tmp 65) (.tmp 70) 22 rfl base 53 i0 (.agg #[.int .i64 0, .int .i64 0]) 2 16 Try.underlying22 Hhi.out Hz0.out Hz1.out Hz2.out rfl (by decide) u p (tabVs 2 R p) rfl (J5.out.rows.alloc _) ⟨w5.heap.size, 0, none⟩ 1 1 [.int .i64 (R p 0), .int .i64 (R p 1)] rfl rfl (World.news_of_block (heap_new w5 _)) (ones2 _ _) (by decide) (by unfold maxLen; omega) (by omega) (by rw [World.size_alloc]; exact Nat.le_succ_of_le J5.out.hb) _ rfl ?_
                      intro g cap w6 hown hgrow hat hlt6
                      have k6 := grown_keep hgrow (alloc_old _ J5.out.cfg) (J5.out.no1 (W := w5) J5.out.cfg (by decide))
                      have c6 := cell_heap (j := 1) k6 rfl
                      have f6 := frozen_of k6 1
                      have K6 := Lib.hid (J5.out.app1 hgrow hown)
                      have E6 := Lib.hid (E5.out.app1 HQ1.out J5.out hgrow 1 (.slice (some ⟨g, 0, none⟩) (p + 1) cap))
                      clear hown hgrow hat hlt6 k6
                      refine hK.out _ _ ?hSb13 (fun hHeld => ?rb13)
                      case hSb13 => trivial
                      clear hK K
                      (try simp only [Act.put, List.setIfInBounds_toArray, List.set_cons_zero, List.set_cons_succ])
                      refine wpAnyH_take (i := 8) (oi := ?oib10) (v := .pointer (some ⟨C, 1, none⟩)) ?hib10 (by as_aux_lemma => kernel_rfl) (by as_aux_lemma => kernel_rfl) (by as_aux_lemma => kernel_rfl) ?hQb10 (Or.inl ⟨?hwb10, ?hyb10⟩) (by assumption) ?rb10
                      case hib10 => (simp only [List.getElem?_toArray, List.getElem?_cons_succ, List.getElem?_cons_zero]; rfl)
                      case hQb10 => exact fun _ _ _ h => h
                      case hwb10 => rfl
                      case hyb10 => (intro w hSw; exact (by as_aux_lemma => kernel_rfl))
                      (try simp only [Act.put, List.setIfInBounds_toArray, List.set_cons_zero, List.set_cons_succ])
                      refine wpAnyH_ready (rs := [9]) (by as_aux_lemma => kernel_rfl) (by simp) ?_
                      refine AllReadyH.cons (o := ?oib11_9) ?hib11_9 ?hcb11_9 AllReadyH.nil
                      case hib11_9 => (simp only [List.getElem?_toArray, List.getElem?_cons_succ, List.getElem?_cons_zero]; rfl)
                      case hcb11_9 =>
                        intro K hK
                        go_simp
                        refine hK.out _ _ ?hSb12 (fun hHeld => ?rb12)
                        case hSb12 => trivial
                        clear hK K
                        (try simp only [Act.put, List.setIfInBounds_toArray, List.set_cons_zero, List.set_cons_succ])
                        refine wpAnyH_done (by as_aux_lemma => kernel_rfl) ?_ _
                        go_wp2_with fail
                        go_roundw
                        case rel => exact ⟨p + 1, _, by omega, by go_num, E6, K6⟩
                        case measure => simp [intOf]; omega
              case hcb5_4 =>
                intro K hK
                go_simp
                go_at_call 72
                refine (gnum_any w1 q _ _ G1.out).mono ?_
                rintro e w5 ⟨rfl, d5, k5⟩
                have e5 : ((stp (stn (2 * p + 1) (dB l))).1 : Int) = R p 1 := (HR.out p 1).symm
                rw [e5]
                have J5 := Lib.hid (G0.out.kg HW.out d5 k5)
                have E5 := Lib.hid (show RdG w1 q (stn (2 * (p + 1)) (dB l)) w5 from d5)
                clear d5 k5 e5
                refine hK.out _ _ ?hSb35 (fun hHeld => ?rb35)
                case hSb35 => trivial
                clear hK K
                (try simp only [Act.put, List.setIfInBounds_toArray, List.set_cons_zero, List.set_cons_succ])
                refine wpAnyH_take (i := 5) (oi := ?oib17) (v := .agg #[.int .i64 (R p 0), .int .i64 (R p 1)]) ?hib17 (by as_aux_lemma => kernel_rfl) (by as_aux_lemma => kernel_rfl) (by as_aux_lemma => kernel_rfl) ?hQb17 (Or.inl ⟨?hwb17, ?hyb17⟩) (by assumption) ?rb17
                case hib17 => (simp only [List.getElem?_toArray, List.getElem?_cons_succ, List.getElem?_cons_zero]; rfl)
                case hQb17 => exact fun _ _ _ h => h
                case hwb17 => rfl
                case hyb17 => (intro w hSw; exact (by as_aux_lemma => kernel_rfl))
                (try simp only [Act.put, List.setIfInBounds_toArray, List.set_cons_zero, List.set_cons_succ])
                refine wpAnyH_ready (rs := [1, 6]) (by as_aux_lemma => kernel_rfl) (by simp) ?_
                refine AllReadyH.cons (o := ?oib18_1) ?hib18_1 ?hcb18_1 (AllReadyH.cons (o := ?oib18_6) ?hib18_6 ?hcb18_6 AllReadyH.nil)
                case hib18_1 => (simp only [List.getElem?_toArray, List.getElem?_cons_succ, List.getElem?_cons_zero]; rfl)
                case hib18_6 => (simp only [List.getElem?_toArray, List.getElem?_cons_succ, List.getElem?_cons_zero]; rfl)
                case hcb18_1 =>
                  intro K hK
                  have ha := cell_heap (j := 1) J5.out.cfg rfl
                  go_simp
                  refine hK.out _ _ ?hSb26 (fun hHeld => ?rb26)
                  case hSb26 => trivial
                  clear hK K
                  (try simp only [Act.put, List.setIfInBounds_toArray, List.set_cons_zero, List.set_cons_succ])
                  clear ha
                  refine wpAnyH_ready (rs := [6]) (by as_aux_lemma => kernel_rfl) (by simp) ?_
                  refine AllReadyH.cons (o := ?oib19_6) ?hib19_6 ?hcb19_6 AllReadyH.nil
                  case hib19_6 => (simp only [List.getElem?_toArray, List.getElem?_cons_succ, List.getElem?_cons_zero]; rfl)
                  case hcb19_6 =>
                    intro K hK
                    go_simp
                    refine hK.out _ _ ?hSb25 (fun hHeld => ?rb25)
                    case hSb25 => trivial
                    clear hK K
                    (try simp only [Act.put, List.setIfInBounds_toArray, List.set_cons_zero, List.set_cons_succ])
                    refine wpAnyH_ready (rs := [7]) (by as_aux_lemma => kernel_rfl) (by simp) ?_
                    refine AllReadyH.cons (o := ?oib20_7) ?hib20_7 ?hcb20_7 AllReadyH.nil
                    case hib20_7 => (simp only [List.getElem?_toArray, List.getElem?_cons_succ, List.getElem?_cons_zero]; rfl)
                    case hcb20_7 =>
                      intro K hK
                      refine step_append_lies _ rfl (.tmp 65) (.tmp 70) 22 rfl base 53 i0 (.agg #[.int .i64 0, .int .i64 0]) 2 16 Try.underlying22 Hhi.out Hz0.out Hz1.out Hz2.out rfl (by decide) u p (tabVs 2 R p) rfl (J5.out.rows.alloc _) ⟨w5.heap.size, 0, none⟩ 1 1 [.int .i64 (R p 0), .int .i64 (R p 1)] rfl rfl (World.news_of_block (heap_new w5 _)) (ones2 _ _) (by decide) (by unfold maxLen; omega) (by omega) (by rw [World.size_alloc]; exact Nat.le_succ_of_le J5.out.hb) _ rfl ?_
                      intro g cap w6 hown hgrow hat hlt6
                      have k6 := grown_keep hgrow (alloc_old _ J5.out.cfg) (J5.out.no1 (W := w5) J5.out.cfg (by decide))
                      have c6 := cell_heap (j := 1) k6 rfl
                      have f6 := frozen_of k6 1
                      have K6 := Lib.hid (J5.out.app1 hgrow hown)
                      have E6 := Lib.hid (E5.out.app1 HQ1.out J5.out hgrow 1 (.slice (some ⟨g, 0, none⟩) (p + 1) cap))
                      clear hown hgrow hat hlt6 k6
                      refine hK.out _ _ ?hSb24 (fun hHeld => ?rb24)
                      case hSb24 => trivial
                      clear hK K
                      (try simp only [Act.put, List.setIfInBounds_toArray, List.set_cons_zero, List.set_cons_succ])
                      refine wpAnyH_take (i := 8) (oi := ?oib21) (v := .pointer (some ⟨C, 1, none⟩)) ?hib21 (by as_aux_lemma => kernel_rfl) (by as_aux_lemma => kernel_rfl) (by as_aux_lemma => kernel_rfl) ?hQb21 (Or.inl ⟨?hwb21, ?hyb21⟩) (by assumption) ?rb21
                      case hib21 => (simp only [List.getElem?_toArray, List.getElem?_cons_succ, List.getElem?_cons_zero]; rfl)
                      case hQb21 => exact fun _ _ _ h => h
                      case hwb21 => rfl
                      case hyb21 => (intro w hSw; exact (by as_aux_lemma => kernel_rfl))
                      (try simp only [Act.put, List.setIfInBounds_toArray, List.set_cons_zero, List.set_cons_succ])
                      refine wpAnyH_ready (rs := [9]) (by as_aux_lemma => kernel_rfl) (by simp) ?_
                      refine AllReadyH.cons (o := ?oib22_9) ?hib22_9 ?hcb22_9 AllReadyH.nil
                      case hib22_9 => (simp only [List.getElem?_toArray, List.getElem?_cons_succ, List.getElem?_cons_zero]; rfl)
                      case hcb22_9 =>
                        intro K hK
                        go_simp
                        refine hK.out _ _ ?hSb23 (fun hHeld => ?rb23)
                        case hSb23 => trivial
                        clear hK K
                        (try simp only [Act.put, List.setIfInBounds_toArray, List.set_cons_zero, List.set_cons_succ])
                        refine wpAnyH_done (by as_aux_lemma => kernel_rfl) ?_ _
                        go_wp2_with fail
                        go_roundw
                        case rel => exact ⟨p + 1, _, by omega, by go_num, E6, K6⟩
                        case measure => simp [intOf]; omega
                case hcb18_6 =>
                  intro K hK
                  go_simp
                  refine hK.out _ _ ?hSb34 (fun hHeld => ?rb34)
                  case hSb34 => trivial
                  clear hK K
                  (try simp only [Act.put, List.setIfInBounds_toArray, List.set_cons_zero, List.set_cons_succ])
                  refine wpAnyH_ready (rs := [1]) (by as_aux_lemma => kernel_rfl) (by simp) ?_
                  refine AllReadyH.cons (o := ?oib27_1) ?hib27_1 ?hcb27_1 AllReadyH.nil
                  case hib27_1 => (simp only [List.getElem?_toArray, List.getElem?_cons_succ, List.getElem?_cons_zero]; rfl)
                  case hcb27_1 =>
                    intro K hK
                    have ha := cell_heap (j := 1) (alloc_old (.cells #[.int .i64 (R p 0), .int .i64 (R p 1)] 53) J5.out.cfg) rfl
                    go_simp
                    refine hK.out _ _ ?hSb33 (fun hHeld => ?rb33)
                    case hSb33 => trivial
                    clear hK K
                    (try simp only [Act.put, List.setIfInBounds_toArray, List.set_cons_zero, List.set_cons_succ])
                    clear ha
                    refine wpAnyH_ready (rs := [7]) (by as_aux_lemma => kernel_rfl) (by simp) ?_
                    refine AllReadyH.cons (o := ?oib28_7) ?hib28_7 ?hcb28_7 AllReadyH.nil
                    case hib28_7 => (simp only [List.getElem?_toArray, List.getElem?_cons_succ, List.getElem?_cons_zero]; rfl)
                    case hcb28_7 =>
                      intro K hK
                      refine step_append_lies _ rfl (.tmp 65) (.tmp 70) 22 rfl base 53 i0 (.agg #[.int .i64 0, .int .i64 0]) 2 16 Try.underlying22 Hhi.out Hz0.out Hz1.out Hz2.out rfl (by decide) u p (tabVs 2 R p) rfl (J5.out.rows.alloc _) ⟨w5.heap.size, 0, none⟩ 1 1 [.int .i64 (R p 0), .int .i64 (R p 1)] rfl rfl (World.news_of_block (heap_new w5 _)) (ones2 _ _) (by decide) (by unfold maxLen; omega) (by omega) (by rw [World.size_alloc]; exact Nat.le_succ_of_le J5.out.hb) _ rfl ?_
                      intro g cap w6 hown hgrow hat hlt6
                      have k6 := grown_keep hgrow (alloc_old _ J5.out.cfg) (J5.out.no1 (W := w5) J5.out.cfg (by decide))
                      have c6 := cell_heap (j := 1) k6 rfl
                      have f6 := frozen_of k6 1
                      have K6 := Lib.hid (J5.out.app1 hgrow hown)
                      have E6 := Lib.hid (E5.out.app1 HQ1.out J5.out hgrow 1 (.slice (some ⟨g, 0, none⟩) (p + 1) cap))
                      clear hown hgrow hat hlt6 k6
                      refine hK.out _ _ ?hSb32 (fun hHeld => ?rb32)
                      case hSb32 => trivial
                      clear hK K
                      (try simp only [Act.put, List.setIfInBounds_toArray, List.set_cons_zero, List.set_cons_succ])
                      refine wpAnyH_take (i := 8) (oi := ?oib29) (v := .pointer (some ⟨C, 1, none⟩)) ?hib29 (by as_aux_lemma => kernel_rfl) (by as_aux_lemma => kernel_rfl) (by as_aux_lemma => kernel_rfl) ?hQb29 (Or.inl ⟨?hwb29, ?hyb29⟩) (by assumption) ?rb29
                      case hib29 => (simp only [List.getElem?_toArray, List.getElem?_cons_succ, List.getElem?_cons_zero]; rfl)
                      case hQb29 => exact fun _ _ _ h => h
                      case hwb29 => rfl
                      case hyb29 => (intro w hSw; exact (by as_aux_lemma => kernel_rfl))
                      (try simp only [Act.put, List.setIfInBounds_toArray, List.set_cons_zero, List.set_cons_succ])
                      refine wpAnyH_ready (rs := [9]) (by as_aux_lemma => kernel_rfl) (by simp) ?_
                      refine AllReadyH.cons (o := ?oib30_9) ?hib30_9 ?hcb30_9 AllReadyH.nil
                      case hib30_9 => (simp only [List.getElem?_toArray, List.getElem?_cons_succ, List.getElem?_cons_zero]; rfl)
                      case hcb30_9 =>
                        intro K hK
                        go_simp
                        refine hK.out _ _ ?hSb31 (fun hHeld => ?rb31)
                        case hSb31 => trivial
                        clear hK K
                        (try simp only [Act.put, List.setIfInBounds_toArray, List.set_cons_zero, List.set_cons_succ])
                        refine wpAnyH_done (by as_aux_lemma => kernel_rfl) ?_ _
                        go_wp2_with fail
                        go_roundw
                        case rel => exact ⟨p + 1, _, by omega, by go_num, E6, K6⟩
                        case measure => simp [intOf]; omega
            · obtain rfl : p = m := by omega
              have DU := Lib.hid (show RdG w1 q (dU l) wr by unfold dU; rw [HDM.out]; exact HD.out)
              have hx0 : (fun _ => 0 : Nat → Int) = xs (fun j => (vl (dU l) j : Int)) 0 := by funext j; simp [xs]
              have IX : Hid (CI w C base v u n p S R (xs (fun j => (vl (dU l) j : Int)) 0) wr) := by rw [← hx0]; exact HI
              have hgx : ∀ j, (fun j => (vl (dU l) j : Int)) j = (vl (dU l) j : Int) := fun _ => rfl
              have HO2 := Lib.hid (fun h0 h1 => doc_end (HO.out.2.2 h0 h1))
              have HO1 := Lib.hid (And.intro HO.out.1 HO.out.2.1)
              generalize (fun j => (vl (dU l) j : Int)) = gx at IX hgx HO2
              have HDE := Lib.hid (show dE l = stn 6 (dU l) from rfl)
              clear hx0 HD HI D2 I2 HO
              generalize dU l = U at hgx DU HDE
              have HGX : Hid (∀ j, (vl U j : Int) = gx j) := Lib.hid (fun j => (hgx j).symm)
              clear hgx
              go_wp2_with fail
              refine (rest_any C wr).mono ?_
              rintro e wc ⟨rfl, hbc⟩
              have DU1 := Lib.hid (DU.out.under hbc)
              have IX1 := Lib.hid (IX.out.under hbc)
              clear hbc DU IX
              go_wp2_with fail
              go_loopw [75] (fun s wr => ∃ j : Nat, j ≤ 6 ∧ s = .int .i64 (j : Int) ∧ Hid (RdG w1 q (stn j U) wr) ∧ Hid (CI w C base v u n p S R (xs gx j) wr)) (fun s _ => 6 - (intOf s).toNat)
              case atStart => exact ⟨0, by omega, rfl, DU1, IX1⟩
              case round =>
                clear DU1 IX1
                obtain ⟨j, hj, rfl, DX, IX⟩ := hrel
                by_cases hlj : j < 6
                · have hlj' : (j : Int) < 6 := by omega
                  have hix := restV_at C j hlj
                  have HSET := Lib.hid (fun (W : World) (hW : W.heap[C]? = some (.cells #[v, u, .int .i64 (xs gx j 0), .int .i64 (xs gx j 1), .int .i64 (xs gx j 2), .int .i64 (xs gx j 3), .int .i64 (xs gx j 4), .int .i64 (xs gx j 5)] 35 (0, 0))) => set_any (lgX j) C (2 + j) _ 35 (gx j) _ W hW (cfg_at v u (xs gx j) j hlj))
                  generalize ptL (lgX j) ⟨C, 2 + j, none⟩ = p1 at hix HSET
                  generalize ptL (!lgX j) ⟨C, 2 + j, none⟩ = p2 at hix HSET
                  generalize restV C = cv at hix
                  have HX := Lib.hid (heap_new wr (.cells #[.pointer p1, .pointer p2] 116))
                  have HDa := Lib.hid (DX.out.alloc (.cells #[.pointer p1, .pointer p2] 116))
                  have HIa := Lib.hid (IX.out.alloc (.cells #[.pointer p1, .pointer p2] 116))
                  have HX2 : Hid (wr.heap.size ≠ q ∧ wr.heap.size ≠ q + 1 ∧ wr.heap.size ≠ C) := Lib.hid (by
                    have a1 := DX.out.lt
                    have a2 := lt_of_heap IX.out.cfg
                    exact ⟨by omega, by omega, by omega⟩)
                  go_wp2_with fail
                  generalize wr.alloc (.cells #[.pointer p1, .pointer p2] 116) = Wa at HX HDa HIa ⊢
                  generalize wr.heap.size = X at HX HX2 ⊢
                  have G0 := Lib.hid HIa.out.drew
                  have G1 := Lib.hid HDa.out.drew
                  have GX := Lib.hid (drew_heapE HX.out)
                  clear hix DX IX HDa HIa
                  refine wp_region_held_drew (S := (fun w' => w'.heap[X]? = some (.cells #[.pointer p1, .pointer p2] 116 (0, 0)))) (by kernel_rfl) ?hSc1 (fun hHeld => ?rc1)
                  case hSc1 => exact GX.out
                  show wpAnyH Try.prog .any _ _ _ 4 #[false, false, false, false] _ _
                  refine wpAnyH_take (i := 0) (oi := ?oic2) (v := .agg #[.pointer p1, .pointer p2]) ?hic2 (by as_aux_lemma => kernel_rfl) (by as_aux_lemma => kernel_rfl) (by as_aux_lemma => kernel_rfl) ?hQc2 ?hyc2 (by assumption) ?rc2
                  case hic2 => (simp only [List.getElem?_toArray, List.getElem?_cons_succ, List.getElem?_cons_zero]; rfl)
                  case hQc2 => exact fun _ _ _ h => h
                  case hyc2 => exact yields_blk rfl 116 (.tmp 14) rfl X rfl [.pointer p1, .pointer p2] 116 _ (fun w h => h) Try.underlying116 rfl (by kernel_rfl)
                  (try simp only [Act.put, List.setIfInBounds_toArray, List.set_cons_zero, List.set_cons_succ])
                  refine wpAnyH_take (i := 1) (oi := ?oic3) (v := .func (Fn.func 72) #[.pointer (some ⟨q + 1, 0, none⟩)] #[]) ?hic3 (by as_aux_lemma => kernel_rfl) (by as_aux_lemma => kernel_rfl) (by as_aux_lemma => kernel_rfl) ?hQc3 (Or.inl ⟨?hwc3, ?hyc3⟩) (by assumption) ?rc3
                  case hic3 => (simp only [List.getElem?_toArray, List.getElem?_cons_succ, List.getElem?_cons_zero]; rfl)
                  case hQc3 => exact fun _ _ _ h => h
                  case hwc3 => rfl
                  case hyc3 => (intro w hSw; exact (by as_aux_lemma => kernel_rfl))
                  (try simp only [Act.put, List.setIfInBounds_toArray, List.set_cons_zero, List.set_cons_succ])
                  refine wpAnyH_ready (rs := [2]) (by as_aux_lemma => kernel_rfl) (by simp) ?_
                  refine AllReadyH.cons (o := ?oic4_2) ?hic4_2 ?hcc4_2 AllReadyH.nil
                  case hic4_2 => (simp only [List.getElem?_toArray, List.getElem?_cons_succ, List.getElem?_cons_zero]; rfl)
                  case hcc4_2 =>
                    intro K hK
                    go_simp
                    go_at_call 72
                    refine (gnum_any w1 q _ _ G1.out).mono ?_
                    rintro e w5 ⟨rfl, d5, k5⟩
                    have e5 : ((stp (stn j U)).1 : Int) = gx j := HGX.out j
                    rw [e5]
                    have J5 := Lib.hid (G0.out.kg HW.out d5 k5)
                    have E5 := Lib.hid d5
                    have X5 := k5.keep GX.out ⟨HX2.out.1, HX2.out.2.1⟩
                    clear d5 k5 e5
                    refine hK.out _ _ ?hSc7 (fun hHeld => ?rc7)
                    case hSc7 => exact X5
                    clear hK K
                    (try simp only [Act.put, List.setIfInBounds_toArray, List.set_cons_zero, List.set_cons_succ])
                    refine wpAnyH_ready (rs := [3]) (by as_aux_lemma => kernel_rfl) (by simp) ?_
                    refine AllReadyH.cons (o := ?oic5_3) ?hic5_3 ?hcc5_3 AllReadyH.nil
                    case hic5_3 => (simp only [List.getElem?_toArray, List.getElem?_cons_succ, List.getElem?_cons_zero]; rfl)
                    case hcc5_3 =>
                      intro K hK
                      go_simp
                      go_at_call 75
                      refine (HSET.out _ J5.out.cfg).mono ?_
                      rintro e w6 ⟨rfl, q6, g6⟩
                      have X6 := grown_keep g6 X5 (fun e => by injection e with e; exact HX2.out.2.2 e)
                      have K6 := Lib.hid (J5.out.setx2 hlj g6 q6)
                      have E6 := Lib.hid (E5.out.grown g6 (fun k e => by cases e; have a4 := HQ1.out; exact ⟨by omega, by omega, by omega⟩))
                      clear q6 g6
                      refine hK.out _ _ ?hSc6 (fun hHeld => ?rc6)
                      case hSc6 => exact X6
                      clear hK K
                      (try simp only [Act.put, List.setIfInBounds_toArray, List.set_cons_zero, List.set_cons_succ])
                      refine wpAnyH_done (by as_aux_lemma => kernel_rfl) ?_ _
                      go_wp2_with fail
                      go_roundw
                      case rel => exact ⟨j + 1, by omega, by go_num, Lib.hid (show RdG w1 q (stn (j + 1) U) _ from E6.out), K6⟩
                      case measure => simp [intOf]; omega
                · obtain rfl : j = 6 := by omega
                  rw [← HDE.out] at DX
                  clear HDE
                  generalize dE l = sE at HO1 HO2 DX
                  obtain ⟨lb, f, gr⟩ := sE
                  obtain ⟨b1, l5, b2, b3⟩ := DX.out
                  have y0 := cell_heap (j := 0) b1 rfl
                  have y1 : wr.cell? ⟨q + 1, 1, none⟩ = some (.bool gr) := cell_heap (j := 1) b1 rfl
                  have O5 : Hid (RdO w1 q l5 f wr) := Lib.hid b2
                  have HE0 : Hid (f = 0 → l5 = lb) := Lib.hid b3
                  have HE1 : Hid (f ≠ 0 → rdF l = (f : Int)) := Lib.hid HO1.out.1
                  have HE2 : Hid (f = 0 → (gr = true ∨ 0 < lb.length) → rdF l = 4) := Lib.hid HO1.out.2
                  have HE3 : Hid (f = 0 → ¬ (gr = true ∨ 0 < lb.length) → rdF l = chkF n S p R (xs gx 6) ∧ RdOk l n p S R (xs gx 6)) := Lib.hid HO2.out
                  clear b1 b2 b3 DX HO1 HO2
                  by_cases hf : f = 0
                  · as_aux_lemma =>
                    subst hf
                    have HFL := Lib.hid (show Calls Try.prog 77 #[.pointer (some ⟨q, 0, none⟩)] wr fun e w' => e = .returned (.int .i64 0) ∧ w' = wr from fault_any w1 q l5 0 wr O5.out)
                    have HLF := Lib.hid (left_any w1 q l5 0 wr O5.out)
                    rw [HE0.out rfl] at HLF
                    go_wp2_with fail
                    refine HFL.out.mono ?_
                    rintro e w5 ⟨rfl, rfl⟩
                    clear HFL O5 HE0
                    by_cases hgl : gr = true ∨ 0 < lb.length
                    · as_aux_lemma =>
                      have H4 := Lib.hid (HE2.out (by first | rfl | trivial) hgl)
                      clear HE1 HE2 HE3
                      cases gr
                      · have hl1 : 0 < lb.length := hgl.resolve_left (by simp)
                        clear hgl
                        generalize lb.length = lbn at HLF hl1
                        have hl0 : (0 : Int) < (lbn : Int) := by omega
                        go_wp2_with fail
                        refine HLF.out.mono ?_
                        rintro e w6 ⟨rfl, rfl⟩
                        go_wp2_with ((with_reducible show wpList _ _ _ _ _ _); refine wpList_store_row rfl 35 (.tmp 2) (.tmp 106) rfl w.heap.size _ rfl rfl 35 _ IX.out.res (by kernel_rfl) rfl (by kernel_rfl) ?_)
                        have r6 := setRow_heap _ _ _ #[.slice none 0 0, .slice none 0 0, .int .i64 0, .int .i64 0, .int .i64 0, .int .i64 0, .int .i64 0, .int .i64 0] _ _ IX.out.res
                        refine bodyPost_ret (v := .tuple #[.agg #[.slice none 0 0, .slice none 0 0, .int .i64 0, .int .i64 0, .int .i64 0, .int .i64 0, .int .i64 0, .int .i64 0], .int .i64 4]) (results_two_row rfl _ _ w.heap.size 35 _ (0, 0) _ rfl r6 Try.underlying35 rfl (by kernel_rfl) _ rfl) rfl ?_
                        rw [HEP.out]
                        exact rd_none rfl H4.out (by decide) (below_setRow IX.out.below _ (Nat.le_refl _) _)
                      · clear hgl
                        go_wp2_with ((with_reducible show wpList _ _ _ _ _ _); refine wpList_store_row rfl 35 (.tmp 2) (.tmp 106) rfl w.heap.size _ rfl rfl 35 _ IX.out.res (by kernel_rfl) rfl (by kernel_rfl) ?_)
                        have r6 := setRow_heap _ _ _ #[.slice none 0 0, .slice none 0 0, .int .i64 0, .int .i64 0, .int .i64 0, .int .i64 0, .int .i64 0, .int .i64 0] _ _ IX.out.res
                        refine bodyPost_ret (v := .tuple #[.agg #[.slice none 0 0, .slice none 0 0, .int .i64 0, .int .i64 0, .int .i64 0, .int .i64 0, .int .i64 0, .int .i64 0], .int .i64 4]) (results_two_row rfl _ _ w.heap.size 35 _ (0, 0) _ rfl r6 Try.underlying35 rfl (by kernel_rfl) _ rfl) rfl ?_
                        rw [HEP.out]
                        exact rd_none rfl H4.out (by decide) (below_setRow IX.out.below _ (Nat.le_refl _) _)
                    · as_aux_lemma =>
                      have H5 := Lib.hid (HE3.out (by first | rfl | trivial) hgl)
                      have hgr : gr = false := by
                        cases gr
                        · rfl
                        · exact absurd (Or.inl rfl) hgl
                      subst hgr
                      have hlb : lb = [] := List.eq_nil_of_length_eq_zero (by have : ¬ 0 < lb.length := fun h => hgl (.inr h); omega)
                      clear hgl HE1 HE2 HE3
                      subst hlb
                      have HLF0 : Hid (Calls Try.prog 78 #[.pointer (some ⟨q, 0, none⟩)] w5 fun e w' => e = .returned (.int .i64 0) ∧ w' = w5) := HLF
                      clear HLF
                      have okS := fun i (_ : i < n) j (_ : j < 16) => dok (HS.out i j)
                      have okR := fun i (_ : i < p) j (_ : j < 2) => dok (HR.out i j)
                      have okX := fun j (_ : j < 6) => xok HGX.out 6 j
                      have OKS := Lib.hid okS
                      have OKR := Lib.hid okR
                      have OKX := Lib.hid okX
                      obtain ⟨A0, c0, B0, d0, rfl, rfl, hcfg⟩ := IX.out.give okS okR okX
                      have HCFG := Lib.hid hcfg
                      clear hcfg okS okR okX
                      go_wp2_with fail
                      refine HLF0.out.mono ?_
                      rintro e w6 ⟨rfl, rfl⟩
                      clear HLF0
                      go_wp2_with (refine wpList_load_blk 35 _ rfl rfl _ rfl 35 _ _ _ IX.out.cfg Try.underlying35 rfl (by kernel_rfl) ?_)
                      refine (check_any A0 n c0 B0 p d0 S R (xs gx 6) _ HCFG.out).mono ?_
                      rintro e w9 ⟨rfl, hb9⟩
                      have I9 := Lib.hid (IX.out.under hb9)
                      clear hb9 IX HCFG y1
                      generalize chkF n S p R (xs gx 6) = ff at H5 ⊢
                      generalize chkI n S p R (xs gx 6) = fi
                      by_cases hff : ff = 0
                      · subst hff
                        go_wp2_with ((with_reducible show wpList _ _ _ _ _ _); first | (refine wpList_store_row rfl 35 (.tmp 2) (.tmp 116) rfl w.heap.size _ rfl rfl 35 _ I9.out.res (by kernel_rfl) rfl (by kernel_rfl) ?_) | (refine wpList_load_blk 35 _ rfl rfl _ rfl 35 _ _ _ I9.out.cfg Try.underlying35 rfl (by kernel_rfl) ?_))
                        have r6 := setRow_heap _ _ _ #[.slice A0 n c0, .slice B0 p d0, .int .i64 (xs gx 6 0), .int .i64 (xs gx 6 1), .int .i64 (xs gx 6 2), .int .i64 (xs gx 6 3), .int .i64 (xs gx 6 4), .int .i64 (xs gx 6 5)] _ _ I9.out.res
                        refine bodyPost_ret (v := .tuple #[.agg #[.slice A0 n c0, .slice B0 p d0, .int .i64 (xs gx 6 0), .int .i64 (xs gx 6 1), .int .i64 (xs gx 6 2), .int .i64 (xs gx 6 3), .int .i64 (xs gx 6 4), .int .i64 (xs gx 6 5)], .int .i64 0]) (results_two_row rfl _ _ w.heap.size 35 _ (0, 0) _ rfl r6 Try.underlying35 rfl (by kernel_rfl) _ rfl) rfl ?_
                        rw [HEP.out]
                        have hC := I9.out.hC
                        exact ⟨A0, n, c0, B0, p, d0, S, R, xs gx 6, by rw [H5.out.1], cfg_of (own_keep I9.out.syms (fun g hg _ => setRow_other _ _ g _ (by omega))) (own_keep I9.out.rows (fun g hg _ => setRow_other _ _ g _ (by omega))) OKS.out OKR.out OKX.out, ⟨fun h0 => absurd H5.out.1 h0, fun _ => H5.out.2⟩, below_setRow I9.out.below _ (Nat.le_refl _) _⟩
                      · have hz2 : (ff != 0) = true := by rw [bne_iff_ne]; exact hff
                        have hz3 : (ff == 0) = false := beq_eq_false_iff_ne.2 hff
                        go_wp2_with ((with_reducible show wpList _ _ _ _ _ _); refine wpList_store_row rfl 35 (.tmp 2) (.tmp 114) rfl w.heap.size _ rfl rfl 35 _ I9.out.res (by kernel_rfl) rfl (by kernel_rfl) ?_)
                        have r6 := setRow_heap _ _ _ #[.slice none 0 0, .slice none 0 0, .int .i64 0, .int .i64 0, .int .i64 0, .int .i64 0, .int .i64 0, .int .i64 0] _ _ I9.out.res
                        refine bodyPost_ret (v := .tuple #[.agg #[.slice none 0 0, .slice none 0 0, .int .i64 0, .int .i64 0, .int .i64 0, .int .i64 0, .int .i64 0, .int .i64 0], .int .i64 ff]) (results_two_row rfl _ _ w.heap.size 35 _ (0, 0) _ rfl r6 Try.underlying35 rfl (by kernel_rfl) _ rfl) rfl ?_
                        rw [HEP.out]
                        exact rd_none rfl H5.out.1 hff (below_setRow I9.out.below _ (Nat.le_refl _) _)
                  · as_aux_lemma =>
                    have hf' : ¬ (f : Int) = 0 := by omega
                    have H4 := Lib.hid (HE1.out hf)
                    have hz2 : ((f : Int) != 0) = true := by rw [bne_iff_ne]; exact hf'
                    have hz3 : ((f : Int) == 0) = false := beq_eq_false_iff_ne.2 hf'
                    clear HE1 HE2 HE3 hf
                    go_wp2_with fail
                    refine (fault_any w1 q l5 f _ O5.out).mono ?_
                    rintro e w5 ⟨rfl, rfl⟩
                    go_wp2_with ((with_reducible show wpList _ _ _ _ _ _); refine wpList_store_row rfl 35 (.tmp 2) (.tmp 91) rfl w.heap.size _ rfl rfl 35 _ IX.out.res (by kernel_rfl) rfl (by kernel_rfl) ?_)
                    have r6 := setRow_heap _ _ _ #[.slice none 0 0, .slice none 0 0, .int .i64 0, .int .i64 0, .int .i64 0, .int .i64 0, .int .i64 0, .int .i64 0] _ _ IX.out.res
                    refine bodyPost_ret (v := .tuple #[.agg #[.slice none 0 0, .slice none 0 0, .int .i64 0, .int .i64 0, .int .i64 0, .int .i64 0, .int .i64 0, .int .i64 0], .int .i64 (f : Int)]) (results_two_row rfl _ _ w.heap.size 35 _ (0, 0) _ rfl r6 Try.underlying35 rfl (by kernel_rfl) _ rfl) rfl ?_
                    rw [HEP.out]
                    exact rd_none rfl H4.out hf' (below_setRow IX.out.below _ (Nat.le_refl _) _)
        · have hdec : decide ((raw (dT l)).1 ≤ 20) = false := decide_eq_false hM
          have H4 := Lib.hid (p_bad2 HN.out (by omega))
          rw [hdec]
          clear hM hdec hz HO
          go_wp2_with ((with_reducible show wpList _ _ _ _ _ _); refine wpList_store_row rfl 35 (.tmp 2) (.tmp 58) rfl w.heap.size _ rfl rfl 35 _ I2.out.res (by kernel_rfl) rfl (by kernel_rfl) ?_)
          have r6 := setRow_heap _ _ _ #[.slice none 0 0, .slice none 0 0, .int .i64 0, .int .i64 0, .int .i64 0, .int .i64 0, .int .i64 0, .int .i64 0] _ _ I2.out.res
          refine bodyPost_ret (v := .tuple #[.agg #[.slice none 0 0, .slice none 0 0, .int .i64 0, .int .i64 0, .int .i64 0, .int .i64 0, .int .i64 0, .int .i64 0], .int .i64 4]) (results_two_row rfl _ _ w.heap.size 35 _ (0, 0) _ rfl r6 Try.underlying35 rfl (by kernel_rfl) _ rfl) rfl ?_
          rw [HEP.out]
          exact rd_none rfl H4.out (by decide) (below_setRow I2.out.below _ (Nat.le_refl _) _)
  · have hdec : decide ((raw (l, 0, false)).1 ≤ 8) = false := decide_eq_false hN
    have H4 := Lib.hid (p_bad1 (l := l) (by omega))
    rw [hdec]
    clear hN hdec hz HO
    generalize w1.heap.size = q at D1 I1 ⊢
    go_wp2_with ((with_reducible show wpList _ _ _ _ _ _); refine wpList_store_row rfl 35 (.tmp 2) (.tmp 31) rfl w.heap.size _ rfl rfl 35 _ I1.out.res (by kernel_rfl) rfl (by kernel_rfl) ?_)
    have r6 := setRow_heap _ _ _ #[.slice none 0 0, .slice none 0 0, .int .i64 0, .int .i64 0, .int .i64 0, .int .i64 0, .int .i64 0, .int .i64 0] _ _ I1.out.res
    refine bodyPost_ret (v := .tuple #[.agg #[.slice none 0 0, .slice none 0 0, .int .i64 0, .int .i64 0, .int .i64 0, .int .i64 0, .int .i64 0, .int .i64 0], .int .i64 4]) (results_two_row rfl _ _ w.heap.size 35 _ (0, 0) _ rfl r6 Try.underlying35 rfl (by kernel_rfl) _ rfl) rfl ?_
    rw [HEP.out]
    exact rd_none rfl H4.out (by decide) (below_setRow I1.out.below _ (Nat.le_refl _) _)
end Go.Proofs.Ythhkcckikmldcaa
