/-
  Reading: the contract of the document's Read. (Written by gen_rd4.py, a program of this session's own.)
-/
import Derived.Test.YthhkcckikmldcaaRd3
import Derived.Deep.RegionHeld3
import Derived.Deep.MidRow
import Derived.Deep.Cut
import Derived.Laws.ResultCell
set_option linter.unusedVariables false
set_option linter.unusedSimpArgs false
namespace Go.Proofs.Ythhkcckikmldcaa
open Go.RowKit

theorem dstart_rd (A : Option Addr) (l : List UInt8) (c : Nat) (hl : l.length ≤ 1000000) (hc : l.length ≤ c) (w : World) (h : RB w A l) : RdD w (w.heap.size + 1) (l, 0, false) (((w.alloc (.cells #[.slice none 0 0, .slice none 0 0, .int .i64 0, .int .i64 0, .int .i64 0, .int .i64 0, .int .i64 0, .int .i64 0] 35)).alloc (.cells #[.slice A l.length c, .int .i64 0, .bool false] 128)).alloc (.cells #[.slice none 0 0, .slice none 0 0, .int .i64 0, .int .i64 0, .int .i64 0, .int .i64 0, .int .i64 0, .int .i64 0] 35)) :=
  ⟨Nat.le_succ _, below_al (below_al (below_al (Below.refl _ _) _) _) _, hl, A, c, alloc_old _ (alloc_new _ (by simp)), h, hc⟩
theorem dstart_ci (A : Option Addr) (l : List UInt8) (c : Nat) (w : World) (S R : Nat → Nat → Int) : CI w (w.heap.size + 1 + 1) (w.heap.size + 3) (.slice none 0 0) (.slice none 0 0) 0 0 S R (fun _ => 0) (((w.alloc (.cells #[.slice none 0 0, .slice none 0 0, .int .i64 0, .int .i64 0, .int .i64 0, .int .i64 0, .int .i64 0, .int .i64 0] 35)).alloc (.cells #[.slice A l.length c, .int .i64 0, .bool false] 128)).alloc (.cells #[.slice none 0 0, .slice none 0 0, .int .i64 0, .int .i64 0, .int .i64 0, .int .i64 0, .int .i64 0, .int .i64 0] 35)) :=
  ⟨below_al (below_al (below_al (Below.refl _ _) _) _) _, alloc_old _ (alloc_old _ (heap_new _ _)), alloc_new _ (by simp), World.ownsRow_nil _ _ _ _, World.ownsRow_nil _ _ _ _, by omega, by simp⟩
theorem dcount8 (w0 : World) (B : Nat) (s : St) (w : World) (h : RdD w0 B s w) :
    Calls Try.prog 79 #[.pointer (some ⟨B, 0, none⟩), .int .i64 8] w fun e w' => e = .returned (.int .i64 ((cntD 8 s).1 : Int)) ∧ RdD w0 B (cntD 8 s).2 w' ∧ w.grownBy w' (some B) := dcount_any 8 (by omega) w0 B s w h
/-- A whole block's load, in every world that meets S. -/
theorem yields_blk {P : Program} {ops : Array Oper} {S : World → Prop} {op : Oper} {a : Act} (hw : Region.wanted op (yielded ops a.tmps) = true) (ty : TypeId) (x : Operand) (ho : op.op = .load ty x)
    (b : Nat) (hx : a.eval x = .pointer (some ⟨b, 0, none⟩)) (cs : List Value) (t : TypeId) (d : TypeDesc) (hS : ∀ w, S w → w.heap[b]? = some (.cells cs.toArray t (0, 0)))
    (hu : P.underlying ty = some d) (hd : d.isRow = true) (hi : (P.info? ty).map (·.size) = some cs.length) : YieldsIf P ops S op (.agg cs.toArray) a :=
  yieldsIf_load_mid hw ty x ho b 0 hx cs d (fun w h => (fun j v hj => by rw [Nat.zero_add]; exact cell_heap (hS w h) (by simpa using hj))) hu hd hi
theorem and_range {W : World} {Q : Nat} {cs : List Value} {t : TypeId} (h : W.heap[Q]? = some (.cells cs.toArray t (0, 0))) : W.heap[Q]? = some (.cells cs.toArray t (0, 0)) ∧ W.rangeAt Q 0 cs :=
  ⟨h, fun j v hj => by rw [Nat.zero_add]; exact cell_heap h (by simpa using hj)⟩
section
variable {w wr w1 : World} {B C base : Nat} {v0 v1 : Value} {n m : Nat} {S R : Nat → Nat → Int} {x : Nat → Int} {s : St}
/-- The reader's own writes leave the rest. -/
theorem CI.rd (h : CI w C base v0 v1 n m S R x wr) (hB : w.heap.size < B ∧ B < C) (hd : RdD w B s w1) (hg : wr.grownBy w1 (some B)) : CI w C base v0 v1 n m S R x w1 :=
  h.keep hd.2.1 hg.size (fun k hk hor => hg.block k hk (fun e => by injection e with e; omega))
theorem RdD.under (h : RdD w B s wr) (hb : Below wr.heap.size wr w1) : RdD w B s w1 := h.grown (row := none) ⟨hb.os, hb.tape, hb.output, hb.size, fun k hk _ => hb.block k hk⟩ (fun k e => by cases e)
theorem RdD.alloc (h : RdD w B s wr) (o : Obj) : RdD w B s (wr.alloc o) := h.under ((Below.refl _ _).alloc (Nat.le_refl _) o)
theorem RdD.drew (h : RdD w B s wr) : RdD w B s wr.drew := h.under (below_drewN (Below.refl _ _) 1)
theorem RdD.set (h : RdD w B s wr) {Q : Nat} (hQ : w.heap.size ≤ Q ∧ Q ≠ B) (j : Nat) (v : Value) : RdD w B s (wr.setCell ⟨Q, j, none⟩ v) := h.grown (Lib.grownBy_setCell wr Q j v) (fun k e => by cases e; exact hQ)
theorem CI.no0 (h : CI w C base v0 v1 n m S R x wr) {Q : Nat} {cs : Array Value} {t : TypeId} {fr : Nat × Nat} (W : World) (hQ : wr.heap[Q]? = some (.cells cs t fr)) (ht : t ≠ 56) : some Q ≠ v0.ownBlock := fun e => by
  rcases h.syms.2 with ⟨rfl, _⟩ | ⟨g, cap, cur, rfl, hb, hh, _⟩
  · cases e
  · simp only [Value.ownBlock] at e
    injection e with e
    subst e
    rw [hh] at hQ
    simp at hQ
    exact ht hQ.2.1.symm
theorem CI.no1 (h : CI w C base v0 v1 n m S R x wr) {Q : Nat} {cs : Array Value} {t : TypeId} {fr : Nat × Nat} (W : World) (hQ : wr.heap[Q]? = some (.cells cs t fr)) (ht : t ≠ 53) : some Q ≠ v1.ownBlock := fun e => by
  rcases h.rows.2 with ⟨rfl, _⟩ | ⟨g, cap, cur, rfl, hb, hh, _⟩
  · cases e
  · simp only [Value.ownBlock] at e
    injection e with e
    subst e
    rw [hh] at hQ
    simp at hQ
    exact ht hQ.2.1.symm
/-- An append to one of the lists, and its store. -/
theorem RdD.app0 (h : RdD w B s wr) (hB : w.heap.size < B ∧ B < C) (hc : CI w C base v0 v1 n m S R x wr) {o : Obj} (hg : (wr.alloc o).grownBy w1 v0.ownBlock) (j : Nat) (v : Value) : RdD w B s (w1.setCell ⟨C, j, none⟩ v) :=
  ((h.alloc o).grown hg (fun k e => by have := hc.row_lt hc.syms k e; omega)).set (by omega) j v
theorem RdD.app1 (h : RdD w B s wr) (hB : w.heap.size < B ∧ B < C) (hc : CI w C base v0 v1 n m S R x wr) {o : Obj} (hg : (wr.alloc o).grownBy w1 v1.ownBlock) (j : Nat) (v : Value) : RdD w B s (w1.setCell ⟨C, j, none⟩ v) :=
  ((h.alloc o).grown hg (fun k e => by have := hc.row_lt hc.rows k e; omega)).set (by omega) j v
theorem results_two_row {P : Program} {fn : Func} {p u : Tmp} {ty : TypeId} (h : fn.results = #[.cell p ty, .tmp u]) (tmps : Array Value) (w : World) (g : Nat) (t : TypeId) (cs : Array Value) (fr : Nat × Nat) (d : TypeDesc)
    (hp : tmps.getD p undef = .pointer (some ⟨g, 0, none⟩)) (hg : w.heap[g]? = some (.cells cs t fr))
    (hu : P.underlying ty = some d) (hd : (match d with | .struct _ | .array _ _ => true | _ => false) = true) (hi : (P.info? ty).map (·.size) = some cs.size) (z : Value) (hz : tmps.getD u undef = z) :
    (results fn tmps).run P w = .ok (.tuple #[.agg cs, z]) w := by
  rw [results_cell_tmp h, hp, hz]
  simp [asAddr, run_loadVar_row w g t ty cs fr d hg hu hd hi, Result.andThen]
theorem cfg_of {W : World} {base n m c d : Nat} {A B : Option Addr} {S R : Nat → Nat → Int} {x : Nat → Int} (h0 : W.ownsRow base 56 16 (.slice A n c) n (tabVs 16 S n)) (h1 : W.ownsRow base 53 2 (.slice B m d) m (tabVs 2 R m))
    (hS : ∀ i, i < n → ∀ j, j < 16 → i64Ok (S i j)) (hR : ∀ i, i < m → ∀ j, j < 2 → i64Ok (R i j)) (hx : ∀ j, j < 6 → i64Ok (x j)) : CfgIn W A n c B m d S R x := by
  obtain ⟨A', c', e, k1, k2, k3⟩ := own_tab h0
  obtain ⟨B', d', e', l1, l2, l3⟩ := own_tab h1
  injection e with e1 e2 e3
  injection e' with f1 f2 f3
  subst e1 e3 f1 f3
  exact ⟨k1, l1, k2, by simpa [maxLen] using k3, l2, by simpa [maxLen] using l3, hS, hR, hx⟩
theorem dok {z : Int} {s : St} {k : Nat} (h : z = (vl s k : Int)) : i64Ok z := by
  have := vl_le s k
  unfold i64Ok
  omega
theorem xok {g : Nat → Int} {s : St} (h : ∀ j, (vl s j : Int) = g j) (k j : Nat) : i64Ok (xs g k j) := by
  unfold xs
  split
  · exact dok (h j).symm
  · unfold i64Ok; omega
theorem ones2 (a b : Int) : ∀ u ∈ ([.int .i64 a, .int .i64 b] : List Value), u.oneCell' = true := by
  intro u hu
  simp only [List.mem_cons, List.not_mem_nil, or_false] at hu
  rcases hu with rfl | rfl <;> rfl
theorem info53 : (Try.prog.info? 53).map (fun i => (i.zero, i.size, i.bytes)) = some (some (.agg #[.int .i64 0, .int .i64 0]), 2, 16) := by kernel_rfl
theorem cfg3j (v0 v1 : Value) (x : Nat → Int) (j : Nat) (hj : j < 3) : (#[v0, v1, .int .i64 (x 0), .int .i64 (x 1), .int .i64 (x 2), .int .i64 (x 3), .int .i64 (x 4), .int .i64 (x 5)] : Array Value)[3 + j]? = some (.int .i64 (x (1 + j))) := by
  rcases (by omega : j = 0 ∨ j = 1 ∨ j = 2) with rfl | rfl | rfl <;> rfl
theorem doc_end {l : List UInt8} {n m : Nat} {S R : Nat → Nat → Int} {g : Nat → Int} (h : rdF l = chkF n S m R g ∧ RdOk l n m S R g) : rdF l = chkF n S m R (xs g 6) ∧ RdOk l n m S R (xs g 6) := by
  have hx : ∀ j, j < 6 → g j = xs g 6 j := fun j hj => by simp [xs, hj]
  obtain ⟨h1, h2, h3, h4, h5, h6⟩ := h
  exact ⟨h1.trans (chk_congr (fun _ _ _ _ => rfl) (fun _ _ _ _ => rfl) hx), h2, h3, h4, h5, fun j hj => (hx j hj).symm.trans (h6 j hj)⟩
theorem ones16 (f : Nat → Int) : ∀ u ∈ ([.int .i64 (f 0), .int .i64 (f 1), .int .i64 (f 2), .int .i64 (f 3), .int .i64 (f 4), .int .i64 (f 5), .int .i64 (f 6), .int .i64 (f 7), .int .i64 (f 8), .int .i64 (f 9), .int .i64 (f 10), .int .i64 (f 11), .int .i64 (f 12), .int .i64 (f 13), .int .i64 (f 14), .int .i64 (f 15)] : List Value), u.oneCell' = true := by
  intro u hu
  simp only [List.mem_cons, List.not_mem_nil, or_false] at hu
  rcases hu with rfl | rfl | rfl | rfl | rfl | rfl | rfl | rfl | rfl | rfl | rfl | rfl | rfl | rfl | rfl | rfl <;> rfl
theorem RdD.lt (h : RdD w B s wr) : B < wr.heap.size := by
  obtain ⟨_, _, _, A, c, h4, _⟩ := h
  exact lt_of_heap h4
end

set_option maxRecDepth 100000 in
set_option maxHeartbeats 16000000 in
theorem dread_any (A : Option Addr) (l : List UInt8) (c : Nat) (hl : l.length ≤ 1000000) (hc : l.length ≤ c) (w : World) (h : RB w A l) :
    Calls Try.prog 29 #[.slice A l.length c] w (RdPost l w) := by
  have D0 := Lib.hid (dstart_rd A l c hl hc w h)
  have I0 := Lib.hid (dstart_ci A l c w (fun i j => (vl (dA l) (16 * i + j) : Int)) (fun i j => (vl (dB l) (2 * i + j) : Int)))
  have HO := Lib.hid (doc_out l)
  have HN1 := Lib.hid (dN_le l)
  have HM1 := Lib.hid (dMm_le l)
  clear hl hc h
  obtain ⟨EP, hEP⟩ : ∃ EP : Ending → World → Prop, EP = RdPost l w := ⟨_, rfl⟩
  rw [← hEP]
  have HEP := Lib.hid hEP
  clear hEP
  go_enter Try.func29, Try.ntmps29
  go_wp2_with fail
  refine (dcount8 _ _ _ _ D0.out).mono ?_
  rintro e w1 ⟨rfl, d1, g1⟩
  have D1 := Lib.hid (show RdD w (w.heap.size + 1) (dA l) w1 from d1)
  have I1 := Lib.hid (I0.out.rd (by omega) d1 g1)
  have hdN : (cntD 8 (l, 0, false)).1 = dN l := rfl
  rw [hdN]
  clear d1 g1 D0 I0 hdN
  have hN1 := HN1.out
  have HS0 : ∀ i j, (fun i j => (vl (dA l) (16 * i + j) : Int)) i j = (vl (dA l) (16 * i + j) : Int) := fun _ _ => rfl
  have HR0 : ∀ i j, (fun i j => (vl (dB l) (2 * i + j) : Int)) i j = (vl (dB l) (2 * i + j) : Int) := fun _ _ => rfl
  generalize (fun i j => (vl (dA l) (16 * i + j) : Int)) = S at HO I1 HS0
  generalize (fun i j => (vl (dB l) (2 * i + j) : Int)) = R at HO I1 HR0
  have HS := Lib.hid HS0
  have HR := Lib.hid HR0
  clear HS0 HR0
  generalize hdn : dN l = n at HO hN1 ⊢
  have HDN := Lib.hid hdn
  clear hdn
  have hBC : w.heap.size < w.heap.size + 1 ∧ w.heap.size + 1 < w.heap.size + 1 + 1 := by omega
  generalize w.heap.size + 1 + 1 = C at I1 hBC ⊢
  generalize w.heap.size + 1 = B at D1 hBC ⊢
  generalize w.heap.size + 3 = base at I1
  have HBC := Lib.hid hBC
  clear hBC
  go_wp2_with fail
  go_loopw [7] (fun s wr => ∃ (i : Nat) (v : Value), i ≤ n ∧ s = .int .i64 (i : Int) ∧ Hid (RdD w B (stn (16 * i) (dA l)) wr) ∧ Hid (CI w C base v (.slice none 0 0) i 0 S R (fun _ => 0) wr)) (fun s _ => n - (intOf s).toNat)
  case atStart => exact ⟨0, _, Nat.zero_le _, rfl, D1, I1⟩
  case round =>
    obtain ⟨i, v, hi, rfl, HD, HI⟩ := hrel
    by_cases hlt : i < n
    · have hlt' : (i : Int) < (n : Int) := by omega
      have HQ : Hid ((wr.alloc (.cells #[.int .i64 0, .int .i64 0, .int .i64 0, .int .i64 0, .int .i64 0, .int .i64 0, .int .i64 0, .int .i64 0, .int .i64 0, .int .i64 0, .int .i64 0, .int .i64 0, .int .i64 0, .int .i64 0, .int .i64 0, .int .i64 0] 130)).heap[wr.heap.size]? = some (.cells (mixA (S i) 0) 130 (0, 0))) := Lib.hid (by rw [mix_0]; exact heap_new _ _)
      have HD2 := Lib.hid (HD.out.alloc (.cells #[.int .i64 0, .int .i64 0, .int .i64 0, .int .i64 0, .int .i64 0, .int .i64 0, .int .i64 0, .int .i64 0, .int .i64 0, .int .i64 0, .int .i64 0, .int .i64 0, .int .i64 0, .int .i64 0, .int .i64 0, .int .i64 0] 130))
      have HI2 := Lib.hid (HI.out.alloc (.cells #[.int .i64 0, .int .i64 0, .int .i64 0, .int .i64 0, .int .i64 0, .int .i64 0, .int .i64 0, .int .i64 0, .int .i64 0, .int .i64 0, .int .i64 0, .int .i64 0, .int .i64 0, .int .i64 0, .int .i64 0, .int .i64 0] 130))
      have HQ2 := Lib.hid (show w.heap.size ≤ wr.heap.size ∧ wr.heap.size ≠ B ∧ C < wr.heap.size by have := HI.out.hb; have := HI.out.hC; have := HD.out.lt; omega)
      clear HD HI
      go_wp2_with fail
      generalize wr.alloc (.cells #[.int .i64 0, .int .i64 0, .int .i64 0, .int .i64 0, .int .i64 0, .int .i64 0, .int .i64 0, .int .i64 0, .int .i64 0, .int .i64 0, .int .i64 0, .int .i64 0, .int .i64 0, .int .i64 0, .int .i64 0, .int .i64 0] 130) = wa at HQ HD2 HI2 ⊢
      generalize wr.heap.size = Q at HQ HQ2 ⊢
      go_loopw [9] (fun s wq => ∃ j : Nat, j ≤ 16 ∧ s = .int .i64 (j : Int) ∧ Hid (RdD w B (stn (16 * i + j) (dA l)) wq) ∧ Hid (CI w C base v (.slice none 0 0) i 0 S R (fun _ => 0) wq) ∧ Hid (wq.heap[Q]? = some (.cells (mixA (S i) j) 130 (0, 0)))) (fun s _ => 16 - (intOf s).toNat)
      case atStart => exact ⟨0, by omega, rfl, HD2, HI2, HQ⟩
      case round =>
        obtain ⟨j, hj, rfl, HDj, HIj, HQj⟩ := hrel
        by_cases hlj : j < 16
        · have hlj' : (j : Int) < 16 := by omega
          go_wp2_with fail
          refine (dnum_any w B _ _ HDj.out).mono ?_
          rintro e w4 ⟨rfl, d4, g4⟩
          have e4 : ((stp (stn (16 * i + j) (dA l))).1 : Int) = S i j := (HS.out i j).symm
          rw [e4]
          have Q4 := Lib.hid (grown_keep g4 HQj.out (fun e => by injection e with e; exact HQ2.out.2.1 e))
          have I4 := Lib.hid (HIj.out.rd HBC.out d4 g4)
          have D4 := Lib.hid (show RdD w B (stn (16 * i + (j + 1)) (dA l)) w4 from d4)
          have c4 := cell_heap (j := j) Q4.out (mix_at (S i) j j hlj)
          have f4 := frozen_of Q4.out j
          clear d4 g4 e4 HDj HIj HQj
          go_wp2_with fail
          go_roundw
          case rel => exact ⟨j + 1, by omega, by go_num, Lib.hid (D4.out.set ⟨HQ2.out.1, HQ2.out.2.1⟩ j _), Lib.hid (I4.out.set Q4.out (by decide) HQ2.out.1 j _), Lib.hid (by rw [heap_setSame Q4.out, mix_set _ _ hlj])⟩
          case measure => simp [intOf]; omega
        · obtain rfl : j = 16 := by omega
          go_wp2_with fail
          have I0 := HIj.out.drew
          have D0 := HDj.out.drew
          have q0 := HQj.out
          rw [mix_16] at q0
          have q1 := drew_heapE q0
          obtain ⟨i0, hhi, hz0, hz1, hz2⟩ := info_parts info56
          have Hhi := Lib.hid hhi
          have Hz0 := Lib.hid hz0
          have Hz1 := Lib.hid hz1
          have Hz2 := Lib.hid hz2
          clear hhi hz0 hz1 hz2
          have hi8 : i ≤ 7 := by omega
          have G0 := Lib.hid I0
          have G1 := Lib.hid D0
          have q5a := drew_heapE HIj.out.cfg
          have hbs := HIj.out.hb
          have hCb := HIj.out.hC
          have hQC : Q ≠ C := Nat.ne_of_gt HQ2.out.2.2
          clear q0
          refine wp_region_held_drew (S := (fun w' => w'.heap[Q]? = some (.cells #[.int .i64 (S i 0), .int .i64 (S i 1), .int .i64 (S i 2), .int .i64 (S i 3), .int .i64 (S i 4), .int .i64 (S i 5), .int .i64 (S i 6), .int .i64 (S i 7), .int .i64 (S i 8), .int .i64 (S i 9), .int .i64 (S i 10), .int .i64 (S i 11), .int .i64 (S i 12), .int .i64 (S i 13), .int .i64 (S i 14), .int .i64 (S i 15)] 130 (0, 0)))) (by kernel_rfl) ?hSa1 (fun hHeld => ?ra1)
          case hSa1 => exact q1
          show wpAnyH Try.prog .any _ _ _ 8 #[false, false, false, false, false, false, false, false] _ _
          refine wpAnyH_take (i := 0) (oi := ?oia2) (v := .pointer (some ⟨C, 0, none⟩)) ?hia2 (by as_aux_lemma => kernel_rfl) (by as_aux_lemma => kernel_rfl) (by as_aux_lemma => kernel_rfl) ?hQa2 (Or.inl ⟨?hwa2, ?hya2⟩) (by assumption) ?ra2
          case hia2 => (simp only [List.getElem?_toArray, List.getElem?_cons_succ, List.getElem?_cons_zero]; rfl)
          case hQa2 => exact fun _ _ _ h => h
          case hwa2 => rfl
          case hya2 => (intro w hSw; exact (by as_aux_lemma => kernel_rfl))
          (try simp only [Act.put, List.setIfInBounds_toArray, List.set_cons_zero, List.set_cons_succ])
          refine wpAnyH_take (i := 2) (oi := ?oia3) (v := .agg #[.int .i64 (S i 0), .int .i64 (S i 1), .int .i64 (S i 2), .int .i64 (S i 3), .int .i64 (S i 4), .int .i64 (S i 5), .int .i64 (S i 6), .int .i64 (S i 7), .int .i64 (S i 8), .int .i64 (S i 9), .int .i64 (S i 10), .int .i64 (S i 11), .int .i64 (S i 12), .int .i64 (S i 13), .int .i64 (S i 14), .int .i64 (S i 15)]) ?hia3 (by as_aux_lemma => kernel_rfl) (by as_aux_lemma => kernel_rfl) (by as_aux_lemma => kernel_rfl) ?hQa3 ?hya3 (by assumption) ?ra3
          case hia3 => (simp only [List.getElem?_toArray, List.getElem?_cons_succ, List.getElem?_cons_zero]; rfl)
          case hQa3 => exact fun _ _ _ h => h
          case hya3 => exact yields_blk rfl 130 (.tmp 8) rfl Q rfl [.int .i64 (S i 0), .int .i64 (S i 1), .int .i64 (S i 2), .int .i64 (S i 3), .int .i64 (S i 4), .int .i64 (S i 5), .int .i64 (S i 6), .int .i64 (S i 7), .int .i64 (S i 8), .int .i64 (S i 9), .int .i64 (S i 10), .int .i64 (S i 11), .int .i64 (S i 12), .int .i64 (S i 13), .int .i64 (S i 14), .int .i64 (S i 15)] 130 (.array 16 2) (fun w h => h) (by kernel_rfl) rfl (by kernel_rfl)
          (try simp only [Act.put, List.setIfInBounds_toArray, List.set_cons_zero, List.set_cons_succ])
          refine wpAnyH_ready (rs := [1, 3]) (by as_aux_lemma => kernel_rfl) (by simp) ?_
          refine AllReadyH.cons (o := ?oia4_1) ?hia4_1 ?hca4_1 (AllReadyH.cons (o := ?oia4_3) ?hia4_3 ?hca4_3 AllReadyH.nil)
          case hia4_1 => (simp only [List.getElem?_toArray, List.getElem?_cons_succ, List.getElem?_cons_zero]; rfl)
          case hia4_3 => (simp only [List.getElem?_toArray, List.getElem?_cons_succ, List.getElem?_cons_zero]; rfl)
          case hca4_1 =>
            intro K hK
            have ha := cell_heap (j := 0) q5a rfl
            go_simp
            refine hK.out _ _ ?hSa14 (fun hHeld => ?ra14)
            case hSa14 => assumption
            clear hK K
            (try simp only [Act.put, List.setIfInBounds_toArray, List.set_cons_zero, List.set_cons_succ])
            clear ha
            refine wpAnyH_ready (rs := [3]) (by as_aux_lemma => kernel_rfl) (by simp) ?_
            refine AllReadyH.cons (o := ?oia5_3) ?hia5_3 ?hca5_3 AllReadyH.nil
            case hia5_3 => (simp only [List.getElem?_toArray, List.getElem?_cons_succ, List.getElem?_cons_zero]; rfl)
            case hca5_3 =>
              intro K hK
              go_simp
              go_at_call 81
              refine (symbol81_any (S i) _).mono ?_
              rintro e w5 ⟨rfl, hq1⟩
              have q5 := block_keep hq1 (lt_of_heap q1) q1
              have q6 := alloc_old (.cells #[.int .i64 (S i 0), .int .i64 (S i 1), .int .i64 (S i 2), .int .i64 (S i 3), .int .i64 (S i 4), .int .i64 (S i 5), .int .i64 (S i 6), .int .i64 (S i 7), .int .i64 (S i 8), .int .i64 (S i 9), .int .i64 (S i 10), .int .i64 (S i 11), .int .i64 (S i 12), .int .i64 (S i 13), .int .i64 (S i 14), .int .i64 (S i 15)] 56) q5
              have c5 := block_keep hq1 (lt_of_heap q5a) q5a
              have J5 := Lib.hid (G0.out.under hq1)
              have E5 := Lib.hid (G1.out.under hq1)
              clear hq1
              refine hK.out _ _ ?hSa13 (fun hHeld => ?ra13)
              case hSa13 => exact q5
              clear hK K
              (try simp only [Act.put, List.setIfInBounds_toArray, List.set_cons_zero, List.set_cons_succ])
              refine wpAnyH_ready (rs := [4]) (by as_aux_lemma => kernel_rfl) (by simp) ?_
              refine AllReadyH.cons (o := ?oia6_4) ?hia6_4 ?hca6_4 AllReadyH.nil
              case hia6_4 => (simp only [List.getElem?_toArray, List.getElem?_cons_succ, List.getElem?_cons_zero]; rfl)
              case hca6_4 =>
                intro K hK
                go_simp
                refine hK.out _ _ ?hSa12 (fun hHeld => ?ra12)
                case hSa12 => exact q6
                clear hK K
                (try simp only [Act.put, List.setIfInBounds_toArray, List.set_cons_zero, List.set_cons_succ])
                refine wpAnyH_ready (rs := [5]) (by as_aux_lemma => kernel_rfl) (by simp) ?_
                refine AllReadyH.cons (o := ?oia7_5) ?hia7_5 ?hca7_5 AllReadyH.nil
                case hia7_5 => (simp only [List.getElem?_toArray, List.getElem?_cons_succ, List.getElem?_cons_zero]; rfl)
                case hca7_5 =>
                  intro K hK
                  refine step_append_lies _ rfl (.tmp 34) (.tmp 37) 31 rfl base 56 i0 (.agg #[.int .i64 0, .int .i64 0, .int .i64 0, .int .i64 0, .int .i64 0, .int .i64 0, .int .i64 0, .int .i64 0, .int .i64 0, .int .i64 0, .int .i64 0, .int .i64 0, .int .i64 0, .int .i64 0, .int .i64 0, .int .i64 0]) 16 128 Try.underlying31 Hhi.out Hz0.out Hz1.out Hz2.out rfl (by decide) v i (tabVs 16 S i) rfl (J5.out.syms.alloc _) ⟨w5.heap.size, 0, none⟩ 1 1 [.int .i64 (S i 0), .int .i64 (S i 1), .int .i64 (S i 2), .int .i64 (S i 3), .int .i64 (S i 4), .int .i64 (S i 5), .int .i64 (S i 6), .int .i64 (S i 7), .int .i64 (S i 8), .int .i64 (S i 9), .int .i64 (S i 10), .int .i64 (S i 11), .int .i64 (S i 12), .int .i64 (S i 13), .int .i64 (S i 14), .int .i64 (S i 15)] rfl rfl (World.news_of_block (heap_new w5 _)) (ones16 _) (by decide) (by unfold maxLen; omega) (by omega) (by rw [World.size_alloc]; exact Nat.le_succ_of_le J5.out.hb) _ rfl ?_
                  intro g cap w6 hown hgrow hat hlt6
                  have q7 := grown_keep hgrow q6 (J5.out.no0 (W := w5) q5 (by decide))
                  have k6 := grown_keep hgrow (alloc_old _ J5.out.cfg) (J5.out.no0 (W := w5) J5.out.cfg (by decide))
                  have c6 := cell_heap (j := 0) k6 rfl
                  have f6 := frozen_of k6 0
                  have K6 := Lib.hid (J5.out.app0 hgrow hown)
                  have E6 := Lib.hid (E5.out.app0 HBC.out J5.out hgrow 0 (.slice (some ⟨g, 0, none⟩) (i + 1) cap))
                  have q8 := heap_setOther q7 hQC 0 (.slice (some ⟨g, 0, none⟩) (i + 1) cap)
                  clear hown hgrow hat hlt6 k6
                  refine hK.out _ _ ?hSa11 (fun hHeld => ?ra11)
                  case hSa11 => exact q7
                  clear hK K
                  (try simp only [Act.put, List.setIfInBounds_toArray, List.set_cons_zero, List.set_cons_succ])
                  refine wpAnyH_take (i := 6) (oi := ?oia8) (v := .pointer (some ⟨C, 0, none⟩)) ?hia8 (by as_aux_lemma => kernel_rfl) (by as_aux_lemma => kernel_rfl) (by as_aux_lemma => kernel_rfl) ?hQa8 (Or.inl ⟨?hwa8, ?hya8⟩) (by assumption) ?ra8
                  case hia8 => (simp only [List.getElem?_toArray, List.getElem?_cons_succ, List.getElem?_cons_zero]; rfl)
                  case hQa8 => exact fun _ _ _ h => h
                  case hwa8 => rfl
                  case hya8 => (intro w hSw; exact (by as_aux_lemma => kernel_rfl))
                  (try simp only [Act.put, List.setIfInBounds_toArray, List.set_cons_zero, List.set_cons_succ])
                  refine wpAnyH_ready (rs := [7]) (by as_aux_lemma => kernel_rfl) (by simp) ?_
                  refine AllReadyH.cons (o := ?oia9_7) ?hia9_7 ?hca9_7 AllReadyH.nil
                  case hia9_7 => (simp only [List.getElem?_toArray, List.getElem?_cons_succ, List.getElem?_cons_zero]; rfl)
                  case hca9_7 =>
                    intro K hK
                    go_simp
                    refine hK.out _ _ ?hSa10 (fun hHeld => ?ra10)
                    case hSa10 => exact q8
                    clear hK K
                    (try simp only [Act.put, List.setIfInBounds_toArray, List.set_cons_zero, List.set_cons_succ])
                    refine wpAnyH_done (by as_aux_lemma => kernel_rfl) ?_ _
                    go_wp2_with fail
                    go_roundw
                    case rel => exact ⟨i + 1, _, by omega, by go_num, E6, K6⟩
                    case measure => simp [intOf]; omega
          case hca4_3 =>
            intro K hK
            go_simp
            go_at_call 81
            refine (symbol81_any (S i) _).mono ?_
            rintro e w5 ⟨rfl, hq1⟩
            have q5 := block_keep hq1 (lt_of_heap q1) q1
            have q6 := alloc_old (.cells #[.int .i64 (S i 0), .int .i64 (S i 1), .int .i64 (S i 2), .int .i64 (S i 3), .int .i64 (S i 4), .int .i64 (S i 5), .int .i64 (S i 6), .int .i64 (S i 7), .int .i64 (S i 8), .int .i64 (S i 9), .int .i64 (S i 10), .int .i64 (S i 11), .int .i64 (S i 12), .int .i64 (S i 13), .int .i64 (S i 14), .int .i64 (S i 15)] 56) q5
            have c5 := block_keep hq1 (lt_of_heap q5a) q5a
            have J5 := Lib.hid (G0.out.under hq1)
            have E5 := Lib.hid (G1.out.under hq1)
            clear hq1
            refine hK.out _ _ ?hSa32 (fun hHeld => ?ra32)
            case hSa32 => exact q5
            clear hK K
            (try simp only [Act.put, List.setIfInBounds_toArray, List.set_cons_zero, List.set_cons_succ])
            refine wpAnyH_ready (rs := [1, 4]) (by as_aux_lemma => kernel_rfl) (by simp) ?_
            refine AllReadyH.cons (o := ?oia15_1) ?hia15_1 ?hca15_1 (AllReadyH.cons (o := ?oia15_4) ?hia15_4 ?hca15_4 AllReadyH.nil)
            case hia15_1 => (simp only [List.getElem?_toArray, List.getElem?_cons_succ, List.getElem?_cons_zero]; rfl)
            case hia15_4 => (simp only [List.getElem?_toArray, List.getElem?_cons_succ, List.getElem?_cons_zero]; rfl)
            case hca15_1 =>
              intro K hK
              have ha := cell_heap (j := 0) c5 rfl
              go_simp
              refine hK.out _ _ ?hSa23 (fun hHeld => ?ra23)
              case hSa23 => assumption
              clear hK K
              (try simp only [Act.put, List.setIfInBounds_toArray, List.set_cons_zero, List.set_cons_succ])
              clear ha
              refine wpAnyH_ready (rs := [4]) (by as_aux_lemma => kernel_rfl) (by simp) ?_
              refine AllReadyH.cons (o := ?oia16_4) ?hia16_4 ?hca16_4 AllReadyH.nil
              case hia16_4 => (simp only [List.getElem?_toArray, List.getElem?_cons_succ, List.getElem?_cons_zero]; rfl)
              case hca16_4 =>
                intro K hK
                go_simp
                refine hK.out _ _ ?hSa22 (fun hHeld => ?ra22)
                case hSa22 => exact q6
                clear hK K
                (try simp only [Act.put, List.setIfInBounds_toArray, List.set_cons_zero, List.set_cons_succ])
                refine wpAnyH_ready (rs := [5]) (by as_aux_lemma => kernel_rfl) (by simp) ?_
                refine AllReadyH.cons (o := ?oia17_5) ?hia17_5 ?hca17_5 AllReadyH.nil
                case hia17_5 => (simp only [List.getElem?_toArray, List.getElem?_cons_succ, List.getElem?_cons_zero]; rfl)
                case hca17_5 =>
                  intro K hK
                  refine step_append_lies _ rfl (.tmp 34) (.tmp 37) 31 rfl base 56 i0 (.agg #[.int .i64 0, .int .i64 0, .int .i64 0, .int .i64 0, .int .i64 0, .int .i64 0, .int .i64 0, .int .i64 0, .int .i64 0, .int .i64 0, .int .i64 0, .int .i64 0, .int .i64 0, .int .i64 0, .int .i64 0, .int .i64 0]) 16 128 Try.underlying31 Hhi.out Hz0.out Hz1.out Hz2.out rfl (by decide) v i (tabVs 16 S i) rfl (J5.out.syms.alloc _) ⟨w5.heap.size, 0, none⟩ 1 1 [.int .i64 (S i 0), .int .i64 (S i 1), .int .i64 (S i 2), .int .i64 (S i 3), .int .i64 (S i 4), .int .i64 (S i 5), .int .i64 (S i 6), .int .i64 (S i 7), .int .i64 (S i 8), .int .i64 (S i 9), .int .i64 (S i 10), .int .i64 (S i 11), .int .i64 (S i 12), .int .i64 (S i 13), .int .i64 (S i 14), .int .i64 (S i 15)] rfl rfl (World.news_of_block (heap_new w5 _)) (ones16 _) (by decide) (by unfold maxLen; omega) (by omega) (by rw [World.size_alloc]; exact Nat.le_succ_of_le J5.out.hb) _ rfl ?_
                  intro g cap w6 hown hgrow hat hlt6
                  have q7 := grown_keep hgrow q6 (J5.out.no0 (W := w5) q5 (by decide))
                  have k6 := grown_keep hgrow (alloc_old _ J5.out.cfg) (J5.out.no0 (W := w5) J5.out.cfg (by decide))
                  have c6 := cell_heap (j := 0) k6 rfl
                  have f6 := frozen_of k6 0
                  have K6 := Lib.hid (J5.out.app0 hgrow hown)
                  have E6 := Lib.hid (E5.out.app0 HBC.out J5.out hgrow 0 (.slice (some ⟨g, 0, none⟩) (i + 1) cap))
                  have q8 := heap_setOther q7 hQC 0 (.slice (some ⟨g, 0, none⟩) (i + 1) cap)
                  clear hown hgrow hat hlt6 k6
                  refine hK.out _ _ ?hSa21 (fun hHeld => ?ra21)
                  case hSa21 => exact q7
                  clear hK K
                  (try simp only [Act.put, List.setIfInBounds_toArray, List.set_cons_zero, List.set_cons_succ])
                  refine wpAnyH_take (i := 6) (oi := ?oia18) (v := .pointer (some ⟨C, 0, none⟩)) ?hia18 (by as_aux_lemma => kernel_rfl) (by as_aux_lemma => kernel_rfl) (by as_aux_lemma => kernel_rfl) ?hQa18 (Or.inl ⟨?hwa18, ?hya18⟩) (by assumption) ?ra18
                  case hia18 => (simp only [List.getElem?_toArray, List.getElem?_cons_succ, List.getElem?_cons_zero]; rfl)
                  case hQa18 => exact fun _ _ _ h => h
                  case hwa18 => rfl
                  case hya18 => (intro w hSw; exact (by as_aux_lemma => kernel_rfl))
                  (try simp only [Act.put, List.setIfInBounds_toArray, List.set_cons_zero, List.set_cons_succ])
                  refine wpAnyH_ready (rs := [7]) (by as_aux_lemma => kernel_rfl) (by simp) ?_
                  refine AllReadyH.cons (o := ?oia19_7) ?hia19_7 ?hca19_7 AllReadyH.nil
                  case hia19_7 => (simp only [List.getElem?_toArray, List.getElem?_cons_succ, List.getElem?_cons_zero]; rfl)
                  case hca19_7 =>
                    intro K hK
                    go_simp
                    refine hK.out _ _ ?hSa20 (fun hHeld => ?ra20)
                    case hSa20 => exact q8
                    clear hK K
                    (try simp only [Act.put, List.setIfInBounds_toArray, List.set_cons_zero, List.set_cons_succ])
                    refine wpAnyH_done (by as_aux_lemma => kernel_rfl) ?_ _
                    go_wp2_with fail
                    go_roundw
                    case rel => exact ⟨i + 1, _, by omega, by go_num, E6, K6⟩
                    case measure => simp [intOf]; omega
            case hca15_4 =>
              intro K hK
              go_simp
              refine hK.out _ _ ?hSa31 (fun hHeld => ?ra31)
              case hSa31 => exact q6
              clear hK K
              (try simp only [Act.put, List.setIfInBounds_toArray, List.set_cons_zero, List.set_cons_succ])
              refine wpAnyH_ready (rs := [1]) (by as_aux_lemma => kernel_rfl) (by simp) ?_
              refine AllReadyH.cons (o := ?oia24_1) ?hia24_1 ?hca24_1 AllReadyH.nil
              case hia24_1 => (simp only [List.getElem?_toArray, List.getElem?_cons_succ, List.getElem?_cons_zero]; rfl)
              case hca24_1 =>
                intro K hK
                have ha := cell_heap (j := 0) (alloc_old (.cells #[.int .i64 (S i 0), .int .i64 (S i 1), .int .i64 (S i 2), .int .i64 (S i 3), .int .i64 (S i 4), .int .i64 (S i 5), .int .i64 (S i 6), .int .i64 (S i 7), .int .i64 (S i 8), .int .i64 (S i 9), .int .i64 (S i 10), .int .i64 (S i 11), .int .i64 (S i 12), .int .i64 (S i 13), .int .i64 (S i 14), .int .i64 (S i 15)] 56) c5) rfl
                go_simp
                refine hK.out _ _ ?hSa30 (fun hHeld => ?ra30)
                case hSa30 => assumption
                clear hK K
                (try simp only [Act.put, List.setIfInBounds_toArray, List.set_cons_zero, List.set_cons_succ])
                clear ha
                refine wpAnyH_ready (rs := [5]) (by as_aux_lemma => kernel_rfl) (by simp) ?_
                refine AllReadyH.cons (o := ?oia25_5) ?hia25_5 ?hca25_5 AllReadyH.nil
                case hia25_5 => (simp only [List.getElem?_toArray, List.getElem?_cons_succ, List.getElem?_cons_zero]; rfl)
                case hca25_5 =>
                  intro K hK
                  refine step_append_lies _ rfl (.tmp 34) (.tmp 37) 31 rfl base 56 i0 (.agg #[.int .i64 0, .int .i64 0, .int .i64 0, .int .i64 0, .int .i64 0, .int .i64 0, .int .i64 0, .int .i64 0, .int .i64 0, .int .i64 0, .int .i64 0, .int .i64 0, .int .i64 0, .int .i64 0, .int .i64 0, .int .i64 0]) 16 128 Try.underlying31 Hhi.out Hz0.out Hz1.out Hz2.out rfl (by decide) v i (tabVs 16 S i) rfl (J5.out.syms.alloc _) ⟨w5.heap.size, 0, none⟩ 1 1 [.int .i64 (S i 0), .int .i64 (S i 1), .int .i64 (S i 2), .int .i64 (S i 3), .int .i64 (S i 4), .int .i64 (S i 5), .int .i64 (S i 6), .int .i64 (S i 7), .int .i64 (S i 8), .int .i64 (S i 9), .int .i64 (S i 10), .int .i64 (S i 11), .int .i64 (S i 12), .int .i64 (S i 13), .int .i64 (S i 14), .int .i64 (S i 15)] rfl rfl (World.news_of_block (heap_new w5 _)) (ones16 _) (by decide) (by unfold maxLen; omega) (by omega) (by rw [World.size_alloc]; exact Nat.le_succ_of_le J5.out.hb) _ rfl ?_
                  intro g cap w6 hown hgrow hat hlt6
                  have q7 := grown_keep hgrow q6 (J5.out.no0 (W := w5) q5 (by decide))
                  have k6 := grown_keep hgrow (alloc_old _ J5.out.cfg) (J5.out.no0 (W := w5) J5.out.cfg (by decide))
                  have c6 := cell_heap (j := 0) k6 rfl
                  have f6 := frozen_of k6 0
                  have K6 := Lib.hid (J5.out.app0 hgrow hown)
                  have E6 := Lib.hid (E5.out.app0 HBC.out J5.out hgrow 0 (.slice (some ⟨g, 0, none⟩) (i + 1) cap))
                  have q8 := heap_setOther q7 hQC 0 (.slice (some ⟨g, 0, none⟩) (i + 1) cap)
                  clear hown hgrow hat hlt6 k6
                  refine hK.out _ _ ?hSa29 (fun hHeld => ?ra29)
                  case hSa29 => exact q7
                  clear hK K
                  (try simp only [Act.put, List.setIfInBounds_toArray, List.set_cons_zero, List.set_cons_succ])
                  refine wpAnyH_take (i := 6) (oi := ?oia26) (v := .pointer (some ⟨C, 0, none⟩)) ?hia26 (by as_aux_lemma => kernel_rfl) (by as_aux_lemma => kernel_rfl) (by as_aux_lemma => kernel_rfl) ?hQa26 (Or.inl ⟨?hwa26, ?hya26⟩) (by assumption) ?ra26
                  case hia26 => (simp only [List.getElem?_toArray, List.getElem?_cons_succ, List.getElem?_cons_zero]; rfl)
                  case hQa26 => exact fun _ _ _ h => h
                  case hwa26 => rfl
                  case hya26 => (intro w hSw; exact (by as_aux_lemma => kernel_rfl))
                  (try simp only [Act.put, List.setIfInBounds_toArray, List.set_cons_zero, List.set_cons_succ])
                  refine wpAnyH_ready (rs := [7]) (by as_aux_lemma => kernel_rfl) (by simp) ?_
                  refine AllReadyH.cons (o := ?oia27_7) ?hia27_7 ?hca27_7 AllReadyH.nil
                  case hia27_7 => (simp only [List.getElem?_toArray, List.getElem?_cons_succ, List.getElem?_cons_zero]; rfl)
                  case hca27_7 =>
                    intro K hK
                    go_simp
                    refine hK.out _ _ ?hSa28 (fun hHeld => ?ra28)
                    case hSa28 => exact q8
                    clear hK K
                    (try simp only [Act.put, List.setIfInBounds_toArray, List.set_cons_zero, List.set_cons_succ])
                    refine wpAnyH_done (by as_aux_lemma => kernel_rfl) ?_ _
                    go_wp2_with fail
                    go_roundw
                    case rel => exact ⟨i + 1, _, by omega, by go_num, E6, K6⟩
                    case measure => simp [intOf]; omega
    · obtain rfl : n = i := by omega
      have DT := Lib.hid (show RdD w B (dT l) wr by unfold dT; rw [HDN.out]; exact HD.out)
      clear HD
      go_wp2_with fail
      refine (drows_any w B _ _ DT.out).mono ?_
      rintro e w2 ⟨rfl, d2, g2⟩
      have hdM : (rowsD (dT l)).1 = dMm l := rfl
      rw [hdM]
      have D2 := Lib.hid (show RdD w B (dB l) w2 from d2)
      have I2 := Lib.hid (HI.out.rd HBC.out d2 g2)
      clear d2 g2 hdM DT HI D1 I1
      have hM1 := HM1.out
      generalize hdm : dMm l = m at HO hM1 ⊢
      have HDM := Lib.hid hdm
      clear hdm
      go_wp2_with fail
      go_loopw [10] (fun s wr => ∃ (q : Nat) (u : Value), q ≤ m ∧ s = .int .i64 (q : Int) ∧ Hid (RdD w B (stn (2 * q) (dB l)) wr) ∧ Hid (CI w C base v u n q S R (fun _ => 0) wr)) (fun s _ => m - (intOf s).toNat)
      case atStart => exact ⟨0, _, Nat.zero_le _, rfl, D2, I2⟩
      case round =>
        obtain ⟨q, u, hq, rfl, HD, HI⟩ := hrel
        by_cases hlt2 : q < m
        · have hlt2' : (q : Int) < (m : Int) := by omega
          go_wp2_with fail
          refine (dnum_any w B _ _ HD.out).mono ?_
          rintro e w3 ⟨rfl, d3, g3⟩
          have e3 : ((stp (stn (2 * q) (dB l))).1 : Int) = R q 0 := (HR.out q 0).symm
          rw [e3]
          have D3 := Lib.hid (show RdD w B (stn (2 * q + 1) (dB l)) w3 from d3)
          have I3 := Lib.hid (HI.out.rd HBC.out d3 g3)
          clear d3 g3 e3 HD HI D2 I2
          go_wp2_with fail
          have G0 := Lib.hid I3.out.drew
          have G1 := Lib.hid D3.out.drew
          obtain ⟨i0, hhi, hz0, hz1, hz2⟩ := info_parts info53
          have Hhi := Lib.hid hhi
          have Hz0 := Lib.hid hz0
          have Hz1 := Lib.hid hz1
          have Hz2 := Lib.hid hz2
          clear hhi hz0 hz1 hz2
          have hq20 : q ≤ 20 := by omega
          refine wp_region_held_drew (S := (fun _ => True)) (by kernel_rfl) ?hSb1 (fun hHeld => ?rb1)
          case hSb1 => trivial
          show wpAnyH Try.prog .any _ _ _ 10 #[false, false, false, false, false, false, false, false, false, false] _ _
          refine wpAnyH_take (i := 0) (oi := ?oib2) (v := .pointer (some ⟨C, 1, none⟩)) ?hib2 (by as_aux_lemma => kernel_rfl) (by as_aux_lemma => kernel_rfl) (by as_aux_lemma => kernel_rfl) ?hQb2 (Or.inl ⟨?hwb2, ?hyb2⟩) (by assumption) ?rb2
          case hib2 => (simp only [List.getElem?_toArray, List.getElem?_cons_succ, List.getElem?_cons_zero]; rfl)
          case hQb2 => exact fun _ _ _ h => h
          case hwb2 => rfl
          case hyb2 => (intro w hSw; exact (by as_aux_lemma => kernel_rfl))
          (try simp only [Act.put, List.setIfInBounds_toArray, List.set_cons_zero, List.set_cons_succ])
          refine wpAnyH_take (i := 2) (oi := ?oib3) (v := .int .i64 (R q 0)) ?hib3 (by as_aux_lemma => kernel_rfl) (by as_aux_lemma => kernel_rfl) (by as_aux_lemma => kernel_rfl) ?hQb3 (Or.inl ⟨?hwb3, ?hyb3⟩) (by assumption) ?rb3
          case hib3 => (simp only [List.getElem?_toArray, List.getElem?_cons_succ, List.getElem?_cons_zero]; rfl)
          case hQb3 => exact fun _ _ _ h => h
          case hwb3 => rfl
          case hyb3 => (intro w hSw; exact (by as_aux_lemma => kernel_rfl))
          (try simp only [Act.put, List.setIfInBounds_toArray, List.set_cons_zero, List.set_cons_succ])
          refine wpAnyH_take (i := 3) (oi := ?oib4) (v := .pointer (some ⟨B, 0, none⟩)) ?hib4 (by as_aux_lemma => kernel_rfl) (by as_aux_lemma => kernel_rfl) (by as_aux_lemma => kernel_rfl) ?hQb4 (Or.inl ⟨?hwb4, ?hyb4⟩) (by assumption) ?rb4
          case hib4 => (simp only [List.getElem?_toArray, List.getElem?_cons_succ, List.getElem?_cons_zero]; rfl)
          case hQb4 => exact fun _ _ _ h => h
          case hwb4 => rfl
          case hyb4 => (intro w hSw; exact (by as_aux_lemma => kernel_rfl))
          (try simp only [Act.put, List.setIfInBounds_toArray, List.set_cons_zero, List.set_cons_succ])
          refine wpAnyH_ready (rs := [1, 4]) (by as_aux_lemma => kernel_rfl) (by simp) ?_
          refine AllReadyH.cons (o := ?oib5_1) ?hib5_1 ?hcb5_1 (AllReadyH.cons (o := ?oib5_4) ?hib5_4 ?hcb5_4 AllReadyH.nil)
          case hib5_1 => (simp only [List.getElem?_toArray, List.getElem?_cons_succ, List.getElem?_cons_zero]; rfl)
          case hib5_4 => (simp only [List.getElem?_toArray, List.getElem?_cons_succ, List.getElem?_cons_zero]; rfl)
          case hcb5_1 =>
            intro K hK
            have ha := cell_heap (j := 1) G0.out.cfg rfl
            go_simp
            refine hK.out _ _ ?hSb16 (fun hHeld => ?rb16)
            case hSb16 => trivial
            clear hK K
            (try simp only [Act.put, List.setIfInBounds_toArray, List.set_cons_zero, List.set_cons_succ])
            clear ha
            refine wpAnyH_ready (rs := [4]) (by as_aux_lemma => kernel_rfl) (by simp) ?_
            refine AllReadyH.cons (o := ?oib6_4) ?hib6_4 ?hcb6_4 AllReadyH.nil
            case hib6_4 => (simp only [List.getElem?_toArray, List.getElem?_cons_succ, List.getElem?_cons_zero]; rfl)
            case hcb6_4 =>
              intro K hK
              go_simp
              go_at_call 80
              refine (dnum_any w B _ _ G1.out).mono ?_
              rintro e w5 ⟨rfl, d5, g5⟩
              have e5 : ((stp (stn (2 * q + 1) (dB l))).1 : Int) = R q 1 := (HR.out q 1).symm
              rw [e5]
              have J5 := Lib.hid (G0.out.rd HBC.out d5 g5)
              have E5 := Lib.hid (show RdD w B (stn (2 * (q + 1)) (dB l)) w5 from d5)
              clear d5 g5 e5
              refine hK.out _ _ ?hSb15 (fun hHeld => ?rb15)
              case hSb15 => trivial
              clear hK K
              (try simp only [Act.put, List.setIfInBounds_toArray, List.set_cons_zero, List.set_cons_succ])
              refine wpAnyH_take (i := 5) (oi := ?oib7) (v := .agg #[.int .i64 (R q 0), .int .i64 (R q 1)]) ?hib7 (by as_aux_lemma => kernel_rfl) (by as_aux_lemma => kernel_rfl) (by as_aux_lemma => kernel_rfl) ?hQb7 (Or.inl ⟨?hwb7, ?hyb7⟩) (by assumption) ?rb7
              case hib7 => (simp only [List.getElem?_toArray, List.getElem?_cons_succ, List.getElem?_cons_zero]; rfl)
              case hQb7 => exact fun _ _ _ h => h
              case hwb7 => rfl
              case hyb7 => (intro w hSw; exact (by as_aux_lemma => kernel_rfl))
              (try simp only [Act.put, List.setIfInBounds_toArray, List.set_cons_zero, List.set_cons_succ])
              refine wpAnyH_ready (rs := [6]) (by as_aux_lemma => kernel_rfl) (by simp) ?_
              refine AllReadyH.cons (o := ?oib8_6) ?hib8_6 ?hcb8_6 AllReadyH.nil
              case hib8_6 => (simp only [List.getElem?_toArray, List.getElem?_cons_succ, List.getElem?_cons_zero]; rfl)
              case hcb8_6 =>
                intro K hK
                go_simp
                refine hK.out _ _ ?hSb14 (fun hHeld => ?rb14)
                case hSb14 => trivial
                clear hK K
                (try simp only [Act.put, List.setIfInBounds_toArray, List.set_cons_zero, List.set_cons_succ])
                refine wpAnyH_ready (rs := [7]) (by as_aux_lemma => kernel_rfl) (by simp) ?_
                refine AllReadyH.cons (o := ?oib9_7) ?hib9_7 ?hcb9_7 AllReadyH.nil
                case hib9_7 => (simp only [List.getElem?_toArray, List.getElem?_cons_succ, List.getElem?_cons_zero]; rfl)
                case hcb9_7 =>
                  intro K hK
                  refine step_append_lies _ rfl (.tmp 50) (.tmp 55) 22 rfl base 53 i0 (.agg #[.int .i64 0, .int .i64 0]) 2 16 Try.underlying22 Hhi.out Hz0.out Hz1.out Hz2.out rfl (by decide) u q (tabVs 2 R q) rfl (J5.out.rows.alloc _) ⟨w5.heap.size, 0, none⟩ 1 1 [.int .i64 (R q 0), .int .i64 (R q 1)] rfl rfl (World.news_of_block (heap_new w5 _)) (ones2 _ _) (by decide) (by unfold maxLen; omega) (by omega) (by rw [World.size_alloc]; exact Nat.le_succ_of_le J5.out.hb) _ rfl ?_
                  intro g cap w6 hown hgrow hat hlt6
                  have k6 := grown_keep hgrow (alloc_old _ J5.out.cfg) (J5.out.no1 (W := w5) J5.out.cfg (by decide))
                  have c6 := cell_heap (j := 1) k6 rfl
                  have f6 := frozen_of k6 1
                  have K6 := Lib.hid (J5.out.app1 hgrow hown)
                  have E6 := Lib.hid (E5.out.app1 HBC.out J5.out hgrow 1 (.slice (some ⟨g, 0, none⟩) (q + 1) cap))
                  clear hown hgrow hat hlt6 k6
                  refine hK.out _ _ ?hSb13 (fun hHeld => ?rb13)
                  case hSb13 => trivial
                  clear hK K
                  (try simp only [Act.put, List.setIfInBounds_toArray, List.set_cons_zero, List.set_cons_succ])
                  refine wpAnyH_take (i := 8) (oi := ?oib10) (v := .pointer (some ⟨C, 1, none⟩)) ?hib10 (by as_aux_lemma => kernel_rfl) (by as_aux_lemma => kernel_rfl) (by as_aux_lemma => kernel_rfl) ?hQb10 (Or.inl ⟨?hwb10, ?hyb10⟩) (by assumption) ?rb10
                  case hib10 => (simp only [List.getElem?_toArray, List.getElem?_cons_succ, List.getElem?_cons_zero]; rfl)
                  case hQb10 => exact fun _ _ _ h => h
                  case hwb10 => rfl
                  case hyb10 => (intro w hSw; exact (by as_aux_lemma => kernel_rfl))
                  (try simp only [Act.put, List.setIfInBounds_toArray, List.set_cons_zero, List.set_cons_succ])
                  refine wpAnyH_ready (rs := [9]) (by as_aux_lemma => kernel_rfl) (by simp) ?_
                  refine AllReadyH.cons (o := ?oib11_9) ?hib11_9 ?hcb11_9 AllReadyH.nil
                  case hib11_9 => (simp only [List.getElem?_toArray, List.getElem?_cons_succ, List.getElem?_cons_zero]; rfl)
                  case hcb11_9 =>
                    intro K hK
                    go_simp
                    refine hK.out _ _ ?hSb12 (fun hHeld => ?rb12)
                    case hSb12 => trivial
                    clear hK K
                    (try simp only [Act.put, List.setIfInBounds_toArray, List.set_cons_zero, List.set_cons_succ])
                    refine wpAnyH_done (by as_aux_lemma => kernel_rfl) ?_ _
                    go_wp2_with fail
                    go_roundw
                    case rel => exact ⟨q + 1, _, by omega, by go_num, E6, K6⟩
                    case measure => simp [intOf]; omega
          case hcb5_4 =>
            intro K hK
            go_simp
            go_at_call 80
            refine (dnum_any w B _ _ G1.out).mono ?_
            rintro e w5 ⟨rfl, d5, g5⟩
            have e5 : ((stp (stn (2 * q + 1) (dB l))).1 : Int) = R q 1 := (HR.out q 1).symm
            rw [e5]
            have J5 := Lib.hid (G0.out.rd HBC.out d5 g5)
            have E5 := Lib.hid (show RdD w B (stn (2 * (q + 1)) (dB l)) w5 from d5)
            clear d5 g5 e5
            refine hK.out _ _ ?hSb35 (fun hHeld => ?rb35)
            case hSb35 => trivial
            clear hK K
            (try simp only [Act.put, List.setIfInBounds_toArray, List.set_cons_zero, List.set_cons_succ])
            refine wpAnyH_take (i := 5) (oi := ?oib17) (v := .agg #[.int .i64 (R q 0), .int .i64 (R q 1)]) ?hib17 (by as_aux_lemma => kernel_rfl) (by as_aux_lemma => kernel_rfl) (by as_aux_lemma => kernel_rfl) ?hQb17 (Or.inl ⟨?hwb17, ?hyb17⟩) (by assumption) ?rb17
            case hib17 => (simp only [List.getElem?_toArray, List.getElem?_cons_succ, List.getElem?_cons_zero]; rfl)
            case hQb17 => exact fun _ _ _ h => h
            case hwb17 => rfl
            case hyb17 => (intro w hSw; exact (by as_aux_lemma => kernel_rfl))
            (try simp only [Act.put, List.setIfInBounds_toArray, List.set_cons_zero, List.set_cons_succ])
            refine wpAnyH_ready (rs := [1, 6]) (by as_aux_lemma => kernel_rfl) (by simp) ?_
            refine AllReadyH.cons (o := ?oib18_1) ?hib18_1 ?hcb18_1 (AllReadyH.cons (o := ?oib18_6) ?hib18_6 ?hcb18_6 AllReadyH.nil)
            case hib18_1 => (simp only [List.getElem?_toArray, List.getElem?_cons_succ, List.getElem?_cons_zero]; rfl)
            case hib18_6 => (simp only [List.getElem?_toArray, List.getElem?_cons_succ, List.getElem?_cons_zero]; rfl)
            case hcb18_1 =>
              intro K hK
              have ha := cell_heap (j := 1) J5.out.cfg rfl
              go_simp
              refine hK.out _ _ ?hSb26 (fun hHeld => ?rb26)
              case hSb26 => trivial
              clear hK K
              (try simp only [Act.put, List.setIfInBounds_toArray, List.set_cons_zero, List.set_cons_succ])
              clear ha
              refine wpAnyH_ready (rs := [6]) (by as_aux_lemma => kernel_rfl) (by simp) ?_
              refine AllReadyH.cons (o := ?oib19_6) ?hib19_6 ?hcb19_6 AllReadyH.nil
              case hib19_6 => (simp only [List.getElem?_toArray, List.getElem?_cons_succ, List.getElem?_cons_zero]; rfl)
              case hcb19_6 =>
                intro K hK
                go_simp
                refine hK.out _ _ ?hSb25 (fun hHeld => ?rb25)
                case hSb25 => trivial
                clear hK K
                (try simp only [Act.put, List.setIfInBounds_toArray, List.set_cons_zero, List.set_cons_succ])
                refine wpAnyH_ready (rs := [7]) (by as_aux_lemma => kernel_rfl) (by simp) ?_
                refine AllReadyH.cons (o := ?oib20_7) ?hib20_7 ?hcb20_7 AllReadyH.nil
                case hib20_7 => (simp only [List.getElem?_toArray, List.getElem?_cons_succ, List.getElem?_cons_zero]; rfl)
                case hcb20_7 =>
                  intro K hK
                  refine step_append_lies _ rfl (.tmp 50) (.tmp 55) 22 rfl base 53 i0 (.agg #[.int .i64 0, .int .i64 0]) 2 16 Try.underlying22 Hhi.out Hz0.out Hz1.out Hz2.out rfl (by decide) u q (tabVs 2 R q) rfl (J5.out.rows.alloc _) ⟨w5.heap.size, 0, none⟩ 1 1 [.int .i64 (R q 0), .int .i64 (R q 1)] rfl rfl (World.news_of_block (heap_new w5 _)) (ones2 _ _) (by decide) (by unfold maxLen; omega) (by omega) (by rw [World.size_alloc]; exact Nat.le_succ_of_le J5.out.hb) _ rfl ?_
                  intro g cap w6 hown hgrow hat hlt6
                  have k6 := grown_keep hgrow (alloc_old _ J5.out.cfg) (J5.out.no1 (W := w5) J5.out.cfg (by decide))
                  have c6 := cell_heap (j := 1) k6 rfl
                  have f6 := frozen_of k6 1
                  have K6 := Lib.hid (J5.out.app1 hgrow hown)
                  have E6 := Lib.hid (E5.out.app1 HBC.out J5.out hgrow 1 (.slice (some ⟨g, 0, none⟩) (q + 1) cap))
                  clear hown hgrow hat hlt6 k6
                  refine hK.out _ _ ?hSb24 (fun hHeld => ?rb24)
                  case hSb24 => trivial
                  clear hK K
                  (try simp only [Act.put, List.setIfInBounds_toArray, List.set_cons_zero, List.set_cons_succ])
                  refine wpAnyH_take (i := 8) (oi := ?oib21) (v := .pointer (some ⟨C, 1, none⟩)) ?hib21 (by as_aux_lemma => kernel_rfl) (by as_aux_lemma => kernel_rfl) (by as_aux_lemma => kernel_rfl) ?hQb21 (Or.inl ⟨?hwb21, ?hyb21⟩) (by assumption) ?rb21
                  case hib21 => (simp only [List.getElem?_toArray, List.getElem?_cons_succ, List.getElem?_cons_zero]; rfl)
                  case hQb21 => exact fun _ _ _ h => h
                  case hwb21 => rfl
                  case hyb21 => (intro w hSw; exact (by as_aux_lemma => kernel_rfl))
                  (try simp only [Act.put, List.setIfInBounds_toArray, List.set_cons_zero, List.set_cons_succ])
                  refine wpAnyH_ready (rs := [9]) (by as_aux_lemma => kernel_rfl) (by simp) ?_
                  refine AllReadyH.cons (o := ?oib22_9) ?hib22_9 ?hcb22_9 AllReadyH.nil
                  case hib22_9 => (simp only [List.getElem?_toArray, List.getElem?_cons_succ, List.getElem?_cons_zero]; rfl)
                  case hcb22_9 =>
                    intro K hK
                    go_simp
                    refine hK.out _ _ ?hSb23 (fun hHeld => ?rb23)
                    case hSb23 => trivial
                    clear hK K
                    (try simp only [Act.put, List.setIfInBounds_toArray, List.set_cons_zero, List.set_cons_succ])
                    refine wpAnyH_done (by as_aux_lemma => kernel_rfl) ?_ _
                    go_wp2_with fail
                    go_roundw
                    case rel => exact ⟨q + 1, _, by omega, by go_num, E6, K6⟩
                    case measure => simp [intOf]; omega
            case hcb18_6 =>
              intro K hK
              go_simp
              refine hK.out _ _ ?hSb34 (fun hHeld => ?rb34)
              case hSb34 => trivial
              clear hK K
              (try simp only [Act.put, List.setIfInBounds_toArray, List.set_cons_zero, List.set_cons_succ])
              refine wpAnyH_ready (rs := [1]) (by as_aux_lemma => kernel_rfl) (by simp) ?_
              refine AllReadyH.cons (o := ?oib27_1) ?hib27_1 ?hcb27_1 AllReadyH.nil
              case hib27_1 => (simp only [List.getElem?_toArray, List.getElem?_cons_succ, List.getElem?_cons_zero]; rfl)
              case hcb27_1 =>
                intro K hK
                have ha := cell_heap (j := 1) (alloc_old (.cells #[.int .i64 (R q 0), .int .i64 (R q 1)] 53) J5.out.cfg) rfl
                go_simp
                refine hK.out _ _ ?hSb33 (fun hHeld => ?rb33)
                case hSb33 => trivial
                clear hK K
                (try simp only [Act.put, List.setIfInBounds_toArray, List.set_cons_zero, List.set_cons_succ])
                clear ha
                refine wpAnyH_ready (rs := [7]) (by as_aux_lemma => kernel_rfl) (by simp) ?_
                refine AllReadyH.cons (o := ?oib28_7) ?hib28_7 ?hcb28_7 AllReadyH.nil
                case hib28_7 => (simp only [List.getElem?_toArray, List.getElem?_cons_succ, List.getElem?_cons_zero]; rfl)
                case hcb28_7 =>
                  intro K hK
                  refine step_append_lies _ rfl (.tmp 50) (.tmp 55) 22 rfl base 53 i0 (.agg #[.int .i64 0, .int .i64 0]) 2 16 Try.underlying22 Hhi.out Hz0.out Hz1.out Hz2.out rfl (by decide) u q (tabVs 2 R q) rfl (J5.out.rows.alloc _) ⟨w5.heap.size, 0, none⟩ 1 1 [.int .i64 (R q 0), .int .i64 (R q 1)] rfl rfl (World.news_of_block (heap_new w5 _)) (ones2 _ _) (by decide) (by unfold maxLen; omega) (by omega) (by rw [World.size_alloc]; exact Nat.le_succ_of_le J5.out.hb) _ rfl ?_
                  intro g cap w6 hown hgrow hat hlt6
                  have k6 := grown_keep hgrow (alloc_old _ J5.out.cfg) (J5.out.no1 (W := w5) J5.out.cfg (by decide))
                  have c6 := cell_heap (j := 1) k6 rfl
                  have f6 := frozen_of k6 1
                  have K6 := Lib.hid (J5.out.app1 hgrow hown)
                  have E6 := Lib.hid (E5.out.app1 HBC.out J5.out hgrow 1 (.slice (some ⟨g, 0, none⟩) (q + 1) cap))
                  clear hown hgrow hat hlt6 k6
                  refine hK.out _ _ ?hSb32 (fun hHeld => ?rb32)
                  case hSb32 => trivial
                  clear hK K
                  (try simp only [Act.put, List.setIfInBounds_toArray, List.set_cons_zero, List.set_cons_succ])
                  refine wpAnyH_take (i := 8) (oi := ?oib29) (v := .pointer (some ⟨C, 1, none⟩)) ?hib29 (by as_aux_lemma => kernel_rfl) (by as_aux_lemma => kernel_rfl) (by as_aux_lemma => kernel_rfl) ?hQb29 (Or.inl ⟨?hwb29, ?hyb29⟩) (by assumption) ?rb29
                  case hib29 => (simp only [List.getElem?_toArray, List.getElem?_cons_succ, List.getElem?_cons_zero]; rfl)
                  case hQb29 => exact fun _ _ _ h => h
                  case hwb29 => rfl
                  case hyb29 => (intro w hSw; exact (by as_aux_lemma => kernel_rfl))
                  (try simp only [Act.put, List.setIfInBounds_toArray, List.set_cons_zero, List.set_cons_succ])
                  refine wpAnyH_ready (rs := [9]) (by as_aux_lemma => kernel_rfl) (by simp) ?_
                  refine AllReadyH.cons (o := ?oib30_9) ?hib30_9 ?hcb30_9 AllReadyH.nil
                  case hib30_9 => (simp only [List.getElem?_toArray, List.getElem?_cons_succ, List.getElem?_cons_zero]; rfl)
                  case hcb30_9 =>
                    intro K hK
                    go_simp
                    refine hK.out _ _ ?hSb31 (fun hHeld => ?rb31)
                    case hSb31 => trivial
                    clear hK K
                    (try simp only [Act.put, List.setIfInBounds_toArray, List.set_cons_zero, List.set_cons_succ])
                    refine wpAnyH_done (by as_aux_lemma => kernel_rfl) ?_ _
                    go_wp2_with fail
                    go_roundw
                    case rel => exact ⟨q + 1, _, by omega, by go_num, E6, K6⟩
                    case measure => simp [intOf]; omega
        · obtain rfl : q = m := by omega
          have DU := Lib.hid (show RdD w B (dU l) wr by unfold dU; rw [HDM.out]; exact HD.out)
          have hx0 : (fun _ => 0 : Nat → Int) = xs (fun j => (vl (dU l) j : Int)) 0 := by funext j; simp [xs]
          have IX : Hid (CI w C base v u n q S R (xs (fun j => (vl (dU l) j : Int)) 0) wr) := by rw [← hx0]; exact HI
          have hgx : ∀ j, (fun j => (vl (dU l) j : Int)) j = (vl (dU l) j : Int) := fun _ => rfl
          have HO2 := Lib.hid (fun h0 h1 => doc_end (HO.out.2.2 h0 h1))
          have HO1 := Lib.hid (And.intro HO.out.1 HO.out.2.1)
          generalize (fun j => (vl (dU l) j : Int)) = gx at IX hgx HO2
          have HDE := Lib.hid (show dE l = stn 6 (dU l) from rfl)
          clear hx0 HD HI D2 I2 HO
          generalize dU l = U at hgx DU HDE
          have HGX : Hid (∀ j, (vl U j : Int) = gx j) := Lib.hid (fun j => (hgx j).symm)
          have hg0 : ((stp U).1 : Int) = gx 0 := (hgx 0).symm
          clear hgx
          go_wp2_with fail
          refine (dnum_any w B _ _ DU.out).mono ?_
          rintro e wx ⟨rfl, d, g2⟩
          have ex := hg0
          rw [ex]
          have IX := Lib.hid (IX.out.rd HBC.out d g2)
          have DX := Lib.hid (show RdD w B (stn (1) U) wx from d)
          have cx := cell_heap (j := 2) IX.out.cfg rfl
          have fx := frozen_of IX.out.cfg (2)
          clear d g2 ex
          go_wp2_with fail
          clear cx fx
          have DX := Lib.hid (DX.out.set (Q := C) (by have := HBC.out; omega) 2 (.int .i64 (gx 0)))
          have IX := Lib.hid (IX.out.setx (by omega) 2 rfl)
          go_loopw [12] (fun s wr => ∃ j : Nat, j ≤ 3 ∧ s = .int .i64 (j : Int) ∧ Hid (RdD w B (stn (1 + j) U) wr) ∧ Hid (CI w C base v u n q S R (xs gx (1 + j)) wr)) (fun s _ => 3 - (intOf s).toNat)
          case atStart => exact ⟨0, by omega, rfl, DX, IX⟩
          case round =>
            clear DX IX
            obtain ⟨j, hj, rfl, DX, IX⟩ := hrel
            by_cases hlj : j < 3
            · have hlj' : (j : Int) < 3 := by omega
              go_wp2_with fail
              refine (dnum_any w B _ _ DX.out).mono ?_
              rintro e wx ⟨rfl, d, g2⟩
              have ex : ((stp (stn (1 + j) U)).1 : Int) = gx (1 + j) := HGX.out _
              rw [ex]
              have IX := Lib.hid (IX.out.rd HBC.out d g2)
              have DX := Lib.hid (show RdD w B (stn (1 + (j + 1)) U) wx from d)
              have cx := cell_heap (j := 3 + j) IX.out.cfg (cfg3j _ _ _ j hlj)
              have fx := frozen_of IX.out.cfg (3 + j)
              clear d g2 ex
              go_wp2_with fail
              clear cx fx
              go_roundw
              case rel => exact ⟨j + 1, by omega, by go_num, Lib.hid (DX.out.set (Q := C) (by have := HBC.out; omega) (3 + j) (.int .i64 (gx (1 + j)))), Lib.hid (IX.out.setx (by omega) (3 + j) (by omega))⟩
              case measure => simp [intOf]; omega
            · obtain rfl : j = 3 := by omega
              have DX4 := Lib.hid (show RdD w B (stn 4 U) _ from DX.out)
              have IX4 := Lib.hid (show CI w C base v u n q S R (xs gx 4) _ from IX.out)
              clear DX IX
              go_wp2_with fail
              refine (dnum_any w B _ _ DX4.out).mono ?_
              rintro e wx ⟨rfl, d, g2⟩
              have ex : ((stp (stn (4) U)).1 : Int) = gx (4) := HGX.out _
              rw [ex]
              have IX := Lib.hid (IX4.out.rd HBC.out d g2)
              have DX := Lib.hid (show RdD w B (stn (5) U) wx from d)
              have cx := cell_heap (j := 6) IX.out.cfg rfl
              have fx := frozen_of IX.out.cfg (6)
              clear d g2 ex
              go_wp2_with fail
              clear cx fx
              have DX := Lib.hid (DX.out.set (Q := C) (by have := HBC.out; omega) 6 (.int .i64 (gx 4)))
              have IX := Lib.hid (IX.out.setx (by omega) 6 rfl)
              refine (dnum_any w B _ _ DX.out).mono ?_
              rintro e wx ⟨rfl, d, g2⟩
              have ex : ((stp (stn (5) U)).1 : Int) = gx (5) := HGX.out _
              rw [ex]
              have IX := Lib.hid (IX.out.rd HBC.out d g2)
              have DX := Lib.hid (show RdD w B (stn (6) U) wx from d)
              have cx := cell_heap (j := 7) IX.out.cfg rfl
              have fx := frozen_of IX.out.cfg (7)
              clear d g2 ex
              rw [← HDE.out] at DX
              clear HDE
              generalize dE l = sE at HO1 HO2 DX
              obtain ⟨lb, f, gr⟩ := sE
              obtain ⟨-, -, -, A5, c5, b4, -, b6⟩ := DX.out
              have hl5 : lb.length ≤ 1000000 := DX.out.2.2.1
              have K5 := Lib.hid (show wx.heap[B]? = some (.cells #[.slice A5 lb.length c5, .int .i64 (f : Int), .bool gr] 128 (0, 0)) from b4)
              have y0 := cell_heap (j := 0) K5.out rfl
              have y1 := cell_heap (j := 1) K5.out rfl
              have y2 := cell_heap (j := 2) K5.out rfl
              have hBC : B ≠ C := by have := HBC.out; omega
              have IY := Lib.hid (IX.out.setx (by omega) 7 rfl)
              have IZ : Hid (CI w C base v u n q S R (xs gx 6) (wx.setCell ⟨C, 7, none⟩ (.int .i64 (gx 5)))) := IY
              have HE1 : Hid (f ≠ 0 → rdF l = (f : Int)) := Lib.hid HO1.out.1
              have HE2 : Hid (f = 0 → (gr = true ∨ 0 < lb.length) → rdF l = 4) := Lib.hid HO1.out.2
              have HE3 : Hid (f = 0 → ¬ (gr = true ∨ 0 < lb.length) → rdF l = chkF n S q R (xs gx 6) ∧ RdOk l n q S R (xs gx 6)) := Lib.hid HO2.out
              have HDn := Lib.hid (show Below w.heap.size w (wx.setCell ⟨C, 7, none⟩ (.int .i64 (gx 5))) from IZ.out.below)
              clear IX DX IY HO1 HO2 b4 b6 y0 y1 y2
              go_upto_region 26 with fail
              have KB := Lib.hid (heap_setOther K5.out hBC 7 (.int .i64 (gx 5)))
              clear cx fx IX4 DX4 hg0 DU K5
              generalize wx.setCell ⟨C, 7, none⟩ (.int .i64 (gx 5)) = W at IZ HDn KB ⊢
              have z0 : W.cell? ⟨B, 0, none⟩ = some (.slice A5 lb.length c5) := cell_heap (j := 0) KB.out rfl
              have z2 : W.cell? ⟨B, 2, none⟩ = some (.bool gr) := cell_heap (j := 2) KB.out rfl
              by_cases hf : f = 0
              · as_aux_lemma =>
                subst hf
                have z1 : W.cell? ⟨B, 1, none⟩ = some (.int .i64 0) := cell_heap (j := 1) KB.out rfl
                by_cases hgl : gr = true ∨ 0 < lb.length
                · as_aux_lemma =>
                  have H4 := Lib.hid (HE2.out rfl hgl)
                  clear HE1 HE2 HE3
                  cases gr
                  · have hl1 : 0 < lb.length := hgl.resolve_left (by simp)
                    clear hgl KB
                    generalize lb.length = lbn at z0 hl1 hl5
                    have hl0 : (0 : Int) < (lbn : Int) := by omega
                    go_upto_region 29 with fail
                    go_wp2_with ((with_reducible show wpList _ _ _ _ _ _); refine wpList_store_row rfl 35 (.tmp 2) (.tmp 100) rfl w.heap.size _ rfl rfl 35 _ IZ.out.res (by kernel_rfl) rfl (by kernel_rfl) ?_)
                    have r6 := setRow_heap _ _ _ #[.slice none 0 0, .slice none 0 0, .int .i64 0, .int .i64 0, .int .i64 0, .int .i64 0, .int .i64 0, .int .i64 0] _ _ IZ.out.res
                    refine bodyPost_ret (v := .tuple #[.agg #[.slice none 0 0, .slice none 0 0, .int .i64 0, .int .i64 0, .int .i64 0, .int .i64 0, .int .i64 0, .int .i64 0], .int .i64 4]) (results_two_row rfl _ _ w.heap.size 35 _ (0, 0) _ rfl r6 Try.underlying35 rfl (by kernel_rfl) _ rfl) rfl ?_
                    rw [HEP.out]
                    exact rd_none rfl H4.out (by decide) (below_setRow HDn.out _ (Nat.le_refl _) _)
                  · clear hgl
                    go_upto_region 29 with fail
                    go_wp2_with ((with_reducible show wpList _ _ _ _ _ _); refine wpList_store_row rfl 35 (.tmp 2) (.tmp 100) rfl w.heap.size _ rfl rfl 35 _ IZ.out.res (by kernel_rfl) rfl (by kernel_rfl) ?_)
                    have r6 := setRow_heap _ _ _ #[.slice none 0 0, .slice none 0 0, .int .i64 0, .int .i64 0, .int .i64 0, .int .i64 0, .int .i64 0, .int .i64 0] _ _ IZ.out.res
                    refine bodyPost_ret (v := .tuple #[.agg #[.slice none 0 0, .slice none 0 0, .int .i64 0, .int .i64 0, .int .i64 0, .int .i64 0, .int .i64 0, .int .i64 0], .int .i64 4]) (results_two_row rfl _ _ w.heap.size 35 _ (0, 0) _ rfl r6 Try.underlying35 rfl (by kernel_rfl) _ rfl) rfl ?_
                    rw [HEP.out]
                    exact rd_none rfl H4.out (by decide) (below_setRow HDn.out _ (Nat.le_refl _) _)
                · as_aux_lemma =>
                  have H5 := Lib.hid (HE3.out rfl hgl)
                  have hgr : gr = false := by
                    cases gr
                    · rfl
                    · exact absurd (Or.inl rfl) hgl
                  subst hgr
                  have hlb : lb = [] := List.eq_nil_of_length_eq_zero (by have : ¬ 0 < lb.length := fun h => hgl (.inr h); omega)
                  clear hgl HE1 HE2 HE3 KB
                  subst hlb
                  replace z0 : W.cell? ⟨B, 0, none⟩ = some (.slice A5 0 c5) := z0
                  clear hl5
                  have okS := fun i (_ : i < n) j (_ : j < 16) => dok (HS.out i j)
                  have okR := fun i (_ : i < q) j (_ : j < 2) => dok (HR.out i j)
                  have okX := fun j (_ : j < 6) => xok HGX.out 6 j
                  have OKS := Lib.hid okS
                  have OKR := Lib.hid okR
                  have OKX := Lib.hid okX
                  obtain ⟨A0, c0, B0, d0, rfl, rfl, hcfg⟩ := IZ.out.give okS okR okX
                  have HCFG := Lib.hid hcfg
                  clear hcfg okS okR okX
                  go_wp2_with (refine wpList_load_blk 35 _ rfl rfl _ rfl 35 _ _ _ IZ.out.cfg Try.underlying35 rfl (by kernel_rfl) ?_)
                  refine (refCheck_any A0 n c0 B0 q d0 S R (xs gx 6) W HCFG.out).mono ?_
                  rintro e w9 ⟨rfl, hb9⟩
                  have I9 := Lib.hid (IZ.out.under hb9)
                  have B9 := Lib.hid (below_all HDn.out hb9)
                  clear hb9 z0 z1 z2 IZ HCFG
                  generalize chkF n S q R (xs gx 6) = ff at H5 ⊢
                  generalize chkI n S q R (xs gx 6) = fi
                  by_cases hff : ff = 0
                  · subst hff
                    go_wp2_with ((with_reducible show wpList _ _ _ _ _ _); first | (refine wpList_store_row rfl 35 (.tmp 2) (.tmp 110) rfl w.heap.size _ rfl rfl 35 _ I9.out.res (by kernel_rfl) rfl (by kernel_rfl) ?_) | (refine wpList_load_blk 35 _ rfl rfl _ rfl 35 _ _ _ I9.out.cfg Try.underlying35 rfl (by kernel_rfl) ?_))
                    have r6 := setRow_heap _ _ _ #[.slice A0 n c0, .slice B0 q d0, .int .i64 (xs gx 6 0), .int .i64 (xs gx 6 1), .int .i64 (xs gx 6 2), .int .i64 (xs gx 6 3), .int .i64 (xs gx 6 4), .int .i64 (xs gx 6 5)] _ _ I9.out.res
                    refine bodyPost_ret (v := .tuple #[.agg #[.slice A0 n c0, .slice B0 q d0, .int .i64 (xs gx 6 0), .int .i64 (xs gx 6 1), .int .i64 (xs gx 6 2), .int .i64 (xs gx 6 3), .int .i64 (xs gx 6 4), .int .i64 (xs gx 6 5)], .int .i64 0]) (results_two_row rfl _ _ w.heap.size 35 _ (0, 0) _ rfl r6 Try.underlying35 rfl (by kernel_rfl) _ rfl) rfl ?_
                    rw [HEP.out]
                    have hC := I9.out.hC
                    exact ⟨A0, n, c0, B0, q, d0, S, R, xs gx 6, by rw [H5.out.1], cfg_of (own_keep I9.out.syms (fun g hg _ => setRow_other _ _ g _ (by omega))) (own_keep I9.out.rows (fun g hg _ => setRow_other _ _ g _ (by omega))) OKS.out OKR.out OKX.out, ⟨fun h0 => absurd H5.out.1 h0, fun _ => H5.out.2⟩, below_setRow B9.out _ (Nat.le_refl _) _⟩
                  · have hz2 : (ff != 0) = true := by rw [bne_iff_ne]; exact hff
                    have hz3 : (ff == 0) = false := beq_eq_false_iff_ne.2 hff
                    go_wp2_with ((with_reducible show wpList _ _ _ _ _ _); refine wpList_store_row rfl 35 (.tmp 2) (.tmp 108) rfl w.heap.size _ rfl rfl 35 _ I9.out.res (by kernel_rfl) rfl (by kernel_rfl) ?_)
                    have r6 := setRow_heap _ _ _ #[.slice none 0 0, .slice none 0 0, .int .i64 0, .int .i64 0, .int .i64 0, .int .i64 0, .int .i64 0, .int .i64 0] _ _ I9.out.res
                    refine bodyPost_ret (v := .tuple #[.agg #[.slice none 0 0, .slice none 0 0, .int .i64 0, .int .i64 0, .int .i64 0, .int .i64 0, .int .i64 0, .int .i64 0], .int .i64 ff]) (results_two_row rfl _ _ w.heap.size 35 _ (0, 0) _ rfl r6 Try.underlying35 rfl (by kernel_rfl) _ rfl) rfl ?_
                    rw [HEP.out]
                    exact rd_none rfl H5.out.1 hff (below_setRow B9.out _ (Nat.le_refl _) _)
              · as_aux_lemma =>
                have hf' : ¬ (f : Int) = 0 := by omega
                have H4 := Lib.hid (HE1.out hf)
                have hz2 : ((f : Int) != 0) = true := by rw [bne_iff_ne]; exact hf'
                have hz3 : ((f : Int) == 0) = false := beq_eq_false_iff_ne.2 hf'
                have z1 : W.cell? ⟨B, 1, none⟩ = some (.int .i64 (f : Int)) := cell_heap (j := 1) KB.out rfl
                clear HE1 HE2 HE3 hf
                go_wp2_with fail
                clear z0 z1 z2
                have hBw : B ≠ w.heap.size := by have := HBC.out; omega
                refine wp_region_held_drew (S := (fun w' => w'.heap[B]? = some (.cells #[.slice A5 lb.length c5, .int .i64 (f : Int), .bool gr] 128 (0, 0)))) (by kernel_rfl) ?hSc1 (fun hHeld => ?rc1)
                case hSc1 => exact drew_heapE KB.out
                show wpAnyH Try.prog .any _ _ _ 7 #[false, false, false, false, false, false, false] _ _
                refine wpAnyH_take (i := 0) (oi := ?oic2) (v := .agg #[.slice none 0 0, .slice none 0 0, .int .i64 0, .int .i64 0, .int .i64 0, .int .i64 0, .int .i64 0, .int .i64 0]) ?hic2 (by as_aux_lemma => kernel_rfl) (by as_aux_lemma => kernel_rfl) (by as_aux_lemma => kernel_rfl) ?hQc2 (Or.inl ⟨?hwc2, ?hyc2⟩) (by assumption) ?rc2
                case hic2 => (simp only [List.getElem?_toArray, List.getElem?_cons_succ, List.getElem?_cons_zero]; rfl)
                case hQc2 => exact fun _ _ _ h => h
                case hwc2 => rfl
                case hyc2 => (intro w hSw; exact (by as_aux_lemma => kernel_rfl))
                (try simp only [Act.put, List.setIfInBounds_toArray, List.set_cons_zero, List.set_cons_succ])
                refine wpAnyH_take (i := 1) (oi := ?oic3) (v := .pointer (some ⟨B, 0, none⟩)) ?hic3 (by as_aux_lemma => kernel_rfl) (by as_aux_lemma => kernel_rfl) (by as_aux_lemma => kernel_rfl) ?hQc3 (Or.inl ⟨?hwc3, ?hyc3⟩) (by assumption) ?rc3
                case hic3 => (simp only [List.getElem?_toArray, List.getElem?_cons_succ, List.getElem?_cons_zero]; rfl)
                case hQc3 => exact fun _ _ _ h => h
                case hwc3 => rfl
                case hyc3 => (intro w hSw; exact (by as_aux_lemma => kernel_rfl))
                (try simp only [Act.put, List.setIfInBounds_toArray, List.set_cons_zero, List.set_cons_succ])
                refine wpAnyH_take (i := 2) (oi := ?oic4) (v := .pointer (some ⟨B, 0, none⟩)) ?hic4 (by as_aux_lemma => kernel_rfl) (by as_aux_lemma => kernel_rfl) (by as_aux_lemma => kernel_rfl) ?hQc4 (Or.inl ⟨?hwc4, ?hyc4⟩) (by assumption) ?rc4
                case hic4 => (simp only [List.getElem?_toArray, List.getElem?_cons_succ, List.getElem?_cons_zero]; rfl)
                case hQc4 => exact fun _ _ _ h => h
                case hwc4 => rfl
                case hyc4 => (intro w hSw; exact (by as_aux_lemma => kernel_rfl))
                (try simp only [Act.put, List.setIfInBounds_toArray, List.set_cons_zero, List.set_cons_succ])
                refine wpAnyH_take (i := 3) (oi := ?oic5) (v := .pointer (some ⟨B, 1, none⟩)) ?hic5 (by as_aux_lemma => kernel_rfl) (by as_aux_lemma => kernel_rfl) (by as_aux_lemma => kernel_rfl) ?hQc5 (Or.inl ⟨?hwc5, ?hyc5⟩) (by assumption) ?rc5
                case hic5 => (simp only [List.getElem?_toArray, List.getElem?_cons_succ, List.getElem?_cons_zero]; rfl)
                case hQc5 => exact fun _ _ _ h => h
                case hwc5 => rfl
                case hyc5 => (intro w hSw; exact (by as_aux_lemma => kernel_rfl))
                (try simp only [Act.put, List.setIfInBounds_toArray, List.set_cons_zero, List.set_cons_succ])
                refine wpAnyH_take (i := 4) (oi := ?oic6) (v := .int .i64 (f : Int)) ?hic6 (by as_aux_lemma => kernel_rfl) (by as_aux_lemma => kernel_rfl) (by as_aux_lemma => kernel_rfl) ?hQc6 ?hyc6 (by assumption) ?rc6
                case hic6 => (simp only [List.getElem?_toArray, List.getElem?_cons_succ, List.getElem?_cons_zero]; rfl)
                case hQc6 => exact fun _ _ _ h => h
                case hyc6 => (refine Or.inl ⟨rfl, ?_⟩; intro w hSw; have ha := cell_heap (j := 1) hSw rfl; go_simp)
                (try simp only [Act.put, List.setIfInBounds_toArray, List.set_cons_zero, List.set_cons_succ])
                refine wpAnyH_ready (rs := [5]) (by as_aux_lemma => kernel_rfl) (by simp) ?_
                refine AllReadyH.cons (o := ?oic7_5) ?hic7_5 ?hcc7_5 AllReadyH.nil
                case hic7_5 => (simp only [List.getElem?_toArray, List.getElem?_cons_succ, List.getElem?_cons_zero]; rfl)
                case hcc7_5 =>
                  intro K hK
                  rw [if_pos (show Region.wanted _ _ = true from rfl)]
                  refine wp_store_row 35 (.tmp 2) (.tmp 83) rfl w.heap.size #[.slice none 0 0, .slice none 0 0, .int .i64 0, .int .i64 0, .int .i64 0, .int .i64 0, .int .i64 0, .int .i64 0] rfl rfl 35 #[.slice none 0 0, .slice none 0 0, .int .i64 0, .int .i64 0, .int .i64 0, .int .i64 0, .int .i64 0, .int .i64 0] (drew_heapE IZ.out.res) (by as_aux_lemma => kernel_rfl) rfl (by as_aux_lemma => kernel_rfl) ?_
                  refine hK.out _ _ ?hSc9 (fun hHeld => ?rc9)
                  case hSc9 => exact (setRow_other _ _ B _ hBw).trans (drew_heapE KB.out)
                  clear hK K
                  (try simp only [Act.put, List.setIfInBounds_toArray, List.set_cons_zero, List.set_cons_succ])
                  refine wpAnyH_take (i := 6) (oi := ?oic8) (v := .int .i64 (f : Int)) ?hic8 (by as_aux_lemma => kernel_rfl) (by as_aux_lemma => kernel_rfl) (by as_aux_lemma => kernel_rfl) ?hQc8 (Or.inl ⟨?hwc8, ?hyc8⟩) (by assumption) ?rc8
                  case hic8 => (simp only [List.getElem?_toArray, List.getElem?_cons_succ, List.getElem?_cons_zero]; rfl)
                  case hQc8 => exact fun _ _ _ h => h
                  case hwc8 => rfl
                  case hyc8 => (intro w hSw; exact (by as_aux_lemma => kernel_rfl))
                  (try simp only [Act.put, List.setIfInBounds_toArray, List.set_cons_zero, List.set_cons_succ])
                  refine wpAnyH_done (by as_aux_lemma => kernel_rfl) ?_ _
                  have r6 := setRow_heap _ _ _ #[.slice none 0 0, .slice none 0 0, .int .i64 0, .int .i64 0, .int .i64 0, .int .i64 0, .int .i64 0, .int .i64 0] _ _ (drew_heapE IZ.out.res)
                  go_wp2_with fail
                  refine bodyPost_ret (v := .tuple #[.agg #[.slice none 0 0, .slice none 0 0, .int .i64 0, .int .i64 0, .int .i64 0, .int .i64 0, .int .i64 0, .int .i64 0], .int .i64 (f : Int)]) (results_two_row rfl _ _ w.heap.size 35 _ (0, 0) _ rfl r6 Try.underlying35 rfl (by kernel_rfl) _ rfl) rfl ?_
                  rw [HEP.out]
                  exact rd_none rfl H4.out hf' (below_setRow (drew_belowE HDn.out) _ (Nat.le_refl _) _)
end Go.Proofs.Ythhkcckikmldcaa
