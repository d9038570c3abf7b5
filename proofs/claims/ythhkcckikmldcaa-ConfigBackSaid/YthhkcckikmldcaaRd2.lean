/-
  Reading: the document's reader: the contract of its num.
-/
import Derived.Test.YthhkcckikmldcaaRd1
import Derived.StillTailTactics
set_option linter.unusedVariables false
set_option linter.unusedSimpArgs false
namespace Go.Proofs.Ythhkcckikmldcaa
open Go.RowKit

theorem grown_trans {a w w' : World} {row : Option Nat} (h : a.grownBy w row) (k : w.grownBy w' row) : a.grownBy w' row :=
  ⟨k.os.trans h.os, k.tape.trans h.tape, k.output.trans h.output, Nat.le_trans h.size k.size, fun i hi hr => (k.block i (Nat.lt_of_lt_of_le hi h.size) hr).trans (h.block i hi hr)⟩
theorem grown_refl (w : World) (row : Option Nat) : w.grownBy w row := ⟨rfl, rfl, rfl, Nat.le_refl _, fun _ _ _ => rfl⟩
theorem grown_alloc {a w : World} {row : Option Nat} (h : a.grownBy w row) (o : Obj) : a.grownBy (w.alloc o) row := grown_trans h (World.grownBy_alloc w o row)
theorem grown_set {a w : World} {b : Nat} (h : a.grownBy w (some b)) (i : Nat) (v : Value) : a.grownBy (w.setCell ⟨b, i, none⟩ v) (some b) := grown_trans h (Lib.grownBy_setCell w b i v)
theorem grown_drew {a w : World} {row : Option Nat} (h : a.grownBy w row) : a.grownBy w.drew row := ⟨h.os, h.tape, h.output, h.size, h.block⟩
theorem grown_below {a w w' : World} {row : Option Nat} (h : a.grownBy w row) (hb : Below w.heap.size w w') : a.grownBy w' row :=
  grown_trans h ⟨hb.os, hb.tape, hb.output, hb.size, fun i hi _ => hb.block i hi⟩
theorem grown_keep {w w1 : World} {row : Option Nat} (h : w.grownBy w1 row) {k : Nat} {o : Obj} (hk : w.heap[k]? = some o) (hne : some k ≠ row) : w1.heap[k]? = some o := (h.block k (lt_of_heap hk) hne).trans hk
theorem below_grown {n B : Nat} {w0 w w1 : World} (h : Below n w0 w) (hn : n ≤ w0.heap.size) (hg : w.grownBy w1 (some B)) (hB : n ≤ B) : Below n w0 w1 :=
  h.grown hg (Nat.le_trans hn h.size) (fun k e => by cases e; exact hB)

/-- Where b[k:] begins. -/
def cutA (A : Option Addr) (c k : Nat) : Option Addr := if c = k then A else A.map (·.add (k * 1))
theorem rb_cut {w : World} {A : Option Addr} {l : List UInt8} {c k : Nat} (h : RB w A l) (hk : k ≤ l.length) (hc : l.length ≤ c) : RB w (cutA A c k) (l.drop k) := fun hn => by
  rw [List.length_drop] at hn
  obtain ⟨b, off, rfl, hcell⟩ := h (by omega)
  refine ⟨b, off + k, ?_, fun j hj => ?_⟩
  · unfold cutA
    rw [if_neg (by omega)]
    show some ((⟨b, off, none⟩ : Addr).add (k * 1)) = _
    rw [Nat.mul_one]
    unfold Addr.add
    split <;> simp_all
  · rw [List.length_drop] at hj
    have := hcell (k + j) (by omega)
    rw [show off + k + j = off + (k + j) by omega]
    simpa using this

theorem rd_fault (f : Nat) : ∀ (i acc : Nat) (l : List UInt8), (rd f i acc l).1 ≠ 0 → (rd f i acc l).2 = (0, 0) := by
  induction f with
  | zero => intro i acc l _; rfl
  | succ f ih =>
    intro i acc l h
    cases l with
    | nil => rfl
    | cons b l =>
      simp only [rd] at h ⊢
      split
      · rfl
      · rename_i c1
        rw [if_neg c1] at h
        split
        · rename_i c2
          rw [if_pos c2] at h
          exact ih _ _ _ h
        · rename_i c2
          rw [if_neg c2] at h
          split
          · rfl
          · rename_i c3
            rw [if_neg c3] at h
            exact absurd rfl h
theorem readNum_le (l : List UInt8) : (readNum l).2.2 ≤ l.length ∧ (readNum l).2.1 < 18446744073709551616 := by
  by_cases h : (readNum l).1 = 0
  · obtain ⟨h1, h2, h3⟩ := readNum_inv (l := l) (n := (readNum l).2.1) (s := (readNum l).2.2) (by rw [← h])
    refine ⟨?_, h3⟩
    have := congrArg List.length h1
    rw [List.length_append] at this
    omega
  · rw [show (readNum l).2 = (0, 0) from rd_fault 10 0 0 l h]
    exact ⟨Nat.zero_le _, by decide⟩
/-- One step of a reader without a fault, from what ReadNum says. -/
theorem stp_of {l : List UInt8} {g : Bool} {f n k : Nat} (h : readNum l = (f, n, k)) : stp (l, 0, g) = (if 4611686018427387904 < n then (0, (l.drop k, f, true)) else (n, (l.drop k, f, g))) := by
  unfold stp raw
  simp only [h]
  by_cases hf : f = 0
  · subst hf
    simp
  · have := rd_fault 10 0 0 l (by show (readNum l).1 ≠ 0; rw [h]; exact hf)
    rw [show rd 10 0 0 l = (f, n, k) from h] at this
    simp at this
    obtain ⟨rfl, rfl⟩ := this
    simp [hf]

/-- The document's reader at block B: its bytes lie where they lay in w0. -/
def RdD (w0 : World) (B : Nat) (s : St) (w : World) : Prop :=
  w0.heap.size ≤ B ∧ Below w0.heap.size w0 w ∧ s.1.length ≤ 1000000 ∧ ∃ A c, w.heap[B]? = some (.cells #[.slice A s.1.length c, .int .i64 (s.2.1 : Int), .bool s.2.2] 128 (0, 0)) ∧ RB w0 A s.1 ∧ s.1.length ≤ c
theorem RdD.grown {w0 w w1 : World} {B : Nat} {s : St} {row : Option Nat} (h : RdD w0 B s w) (hg : w.grownBy w1 row) (hr : ∀ k, row = some k → w0.heap.size ≤ k ∧ k ≠ B) : RdD w0 B s w1 := by
  obtain ⟨h1, h2, h3, A, c, h4, h5, h6⟩ := h
  exact ⟨h1, h2.grown hg h2.size (fun k e => (hr k e).1), h3, A, c, grown_keep hg h4 (fun e => (hr B e.symm).2 rfl), h5, h6⟩

/-- A region that draws its order: its first n operations only read; the rest is forced. The world behind the draw gets a name. -/
theorem region_still {P : Program} {id : Nat} {Q : Exit → Act → World → Prop} {a : Act} {w : World} {l : List Oper} (n : Nat) (hm : P.follows .mixedOrders = true) (hB : Region.lexTailB .any l.toArray n = true)
    (h : ∀ wd : World, wd = w.drew → wpStill P l.toArray wd (fun a' => wpList P l.toArray Q (l.drop n) a' wd) (l.take n) a) : (Code.region id l.toArray true).wp P Q a w :=
  wp_region_still_tail n hm hB (h _ rfl)
theorem part_cells (f n k : Nat) : (#[.int .u64 (n : Int), .int .i64 0, .slice none 0 0, .int .i64 (k : Int), .int .i64 (f : Int)] : Array Value).size = 5 := rfl

set_option maxHeartbeats 4000000 in
theorem dnum_fault (w0 : World) (B : Nat) (s : St) (w : World) (h : RdD w0 B s w) (hf : s.2.1 ≠ 0) :
    Calls Try.prog 80 #[.pointer (some ⟨B, 0, none⟩)] w fun e w' => e = .returned (.int .i64 0) ∧ w' = w := by
  obtain ⟨h1, h2, h3, A, c, h4, h5, h6⟩ := h
  have c1 := cell_heap (j := 1) h4 rfl
  have hz : ¬ ((s.2.1 : Nat) : Int) = 0 := by omega
  clear h4
  go_enter Try.func80, Try.ntmps80
  go_wp2
  go_ret
  exact ⟨rfl, rfl⟩

set_option maxRecDepth 100000 in
set_option maxHeartbeats 4000000 in
theorem dnum_ok (w0 : World) (B : Nat) (l : List UInt8) (g : Bool) (w : World) (h : RdD w0 B (l, 0, g) w) :
    Calls Try.prog 80 #[.pointer (some ⟨B, 0, none⟩)] w fun e w' => e = .returned (.int .i64 ((stp (l, 0, g)).1 : Int)) ∧ RdD w0 B (stp (l, 0, g)).2 w' ∧ w.grownBy w' (some B) := by
  obtain ⟨h1, h2, h3, A, c, h4, h5, h6⟩ := h
  have HR := Lib.hid (readNum_any A l c (by have : l.length ≤ 1000000 := h3; omega) w (RB.below h5 h2))
  have HL := Lib.hid (readNum_le l)
  have h3' : l.length ≤ 1000000 := h3
  have h6' : l.length ≤ c := h6
  have H5 := Lib.hid h5
  have H2 := Lib.hid h2
  have H4 := Lib.hid (show w.heap[B]? = some (.cells #[.slice A l.length c, .int .i64 0, .bool g] 128 (0, 0)) from h4)
  have c0 := cell_heap (j := 0) H4.out rfl
  have c1 := cell_heap (j := 1) H4.out rfl
  obtain ⟨f, n, k, hr⟩ : ∃ f n k, readNum l = (f, n, k) := ⟨_, _, _, rfl⟩
  have HS := Lib.hid (stp_of (g := g) hr)
  rw [hr] at HR HL
  clear h3 h6 h5 h2 h4 hr
  go_enter Try.func80, Try.ntmps80
  go_wp2_with fail
  refine HR.out.mono ?_
  rintro e w1 ⟨rfl, hb1⟩
  unfold partV
  have K1 := Lib.hid (block_keep hb1 (lt_of_heap H4.out) H4.out)
  have f1 := frozen_of K1.out 1
  have f0 := frozen_of K1.out 0
  have d0 := cell_heap (j := 0) K1.out rfl
  have d1 := cell_heap (j := 1) K1.out rfl
  have hlt := lt_of_heap K1.out
  go_wp2_with fail
  refine region_still 10 (by kernel_rfl) (by kernel_rfl) (fun wd hwd => ?_)
  have G1 : wd.heap[B]? = some (.cells #[.slice A l.length c, .int .i64 (f : Int), .bool g] 128 (0, 0)) := by rw [hwd]; exact alloc_old _ (heap_setSame K1.out 1 _)
  have G2 : wd.heap[w1.heap.size]? = some (.cells #[.int .u64 (n : Int), .int .i64 0, .slice none 0 0, .int .i64 (k : Int), .int .i64 (f : Int)] 163 (0, 0)) := by
    rw [hwd]
    exact alloc_new _ (World.size_setCell _ _ _).symm
  have G3 := Lib.hid (show w.grownBy wd (some B) by rw [hwd]; exact grown_drew (grown_alloc (grown_set (grown_below (grown_refl _ _) hb1) 1 _) _))
  clear hwd f1 f0 d0 d1 c0 c1 hb1 K1
  generalize w1.heap.size = P at hlt G2 ⊢
  have d0 := cell_heap (j := 0) G1 rfl
  have e0 := cell_heap (j := 0) G2 rfl
  have e3 := cell_heap (j := 3) G2 rfl
  have f0 := frozen_of G1 0
  have hPB : P ≠ B := by omega
  have hk : (k : Int) ≤ (l.length : Int) := by have := HL.out.1; omega
  have hn : (n : Int) < 18446744073709551616 := by have := HL.out.2; omega
  have K1 := Lib.hid G1
  have K2 := Lib.hid G2
  clear G1 G2
  simp only [List.take_succ_cons, List.take_zero, List.drop_succ_cons, List.drop_zero]
  repeat still_step
  refine wpStill_nil ?_
  rw [show (if c = k then A else Option.map (fun x => x.add k) A) = cutA A c k by unfold cutA; rw [Nat.mul_one]]
  have HA := Lib.hid (rb_cut H5.out HL.out.1 h6')
  generalize cutA A c k = A' at HA ⊢
  by_cases hbig : 4611686018427387904 < n
  · have hbig' : (4611686018427387904 : Int) < (n : Int) := by omega
    have HS' := Lib.hid (show stp (l, 0, g) = (0, (l.drop k, f, true)) by rw [HS.out, if_pos hbig])
    have f2 := frozen_of K1.out 2
    have d2 := cell_heap (j := 2) K1.out rfl
    clear hbig HS
    go_wp2_with fail
    go_ret
    rw [HS'.out]
    have hq := heap_setSame (heap_setSame K1.out 0 (.slice A' (l.length - k) (c - k))) 2 (.bool true)
    refine ⟨rfl, ⟨h1, ?_, ?_, A', c - k, ?_, HA.out, ?_⟩, ?_⟩
    · exact below_grown H2.out (Nat.le_refl _) (grown_set (grown_set G3.out 0 _) 2 _) h1
    · show (l.drop k).length ≤ 1000000
      rw [List.length_drop]; omega
    · rw [hq]
      show some (Obj.cells #[.slice A' (l.length - k) (c - k), .int .i64 (f : Int), .bool true] 128 (0, 0)) = some (Obj.cells #[.slice A' (l.drop k).length (c - k), .int .i64 (f : Int), .bool true] 128 (0, 0))
      rw [List.length_drop]
    · show (l.drop k).length ≤ c - k
      rw [List.length_drop]; omega
    · exact grown_set (grown_set G3.out 0 _) 2 _
  · have hbig' : ¬ (4611686018427387904 : Int) < (n : Int) := by omega
    have HS' := Lib.hid (show stp (l, 0, g) = (n, (l.drop k, f, g)) by rw [HS.out, if_neg hbig])
    clear hbig HS
    go_wp2_with fail
    go_ret
    rw [HS'.out]
    refine ⟨rfl, ⟨h1, ?_, ?_, A', c - k, ?_, HA.out, ?_⟩, ?_⟩
    · exact below_grown H2.out (Nat.le_refl _) (grown_set G3.out 0 _) h1
    · show (l.drop k).length ≤ 1000000
      rw [List.length_drop]; omega
    · have := heap_setSame K1.out 0 (.slice A' (l.length - k) (c - k))
      rw [this]
      show some (Obj.cells #[.slice A' (l.length - k) (c - k), .int .i64 (f : Int), .bool g] 128 (0, 0)) = some (Obj.cells #[.slice A' (l.drop k).length (c - k), .int .i64 (f : Int), .bool g] 128 (0, 0))
      rw [List.length_drop]
    · show (l.drop k).length ≤ c - k
      rw [List.length_drop]; omega
    · exact grown_set G3.out 0 _

/-- The document's num. -/
theorem dnum_any (w0 : World) (B : Nat) (s : St) (w : World) (h : RdD w0 B s w) :
    Calls Try.prog 80 #[.pointer (some ⟨B, 0, none⟩)] w fun e w' => e = .returned (.int .i64 ((stp s).1 : Int)) ∧ RdD w0 B (stp s).2 w' ∧ w.grownBy w' (some B) := by
  obtain ⟨l, f, g⟩ := s
  by_cases hf : f = 0
  · subst hf
    exact dnum_ok w0 B l g w h
  · refine (dnum_fault w0 B (l, f, g) w h hf).mono ?_
    rintro e w' ⟨rfl, rfl⟩
    rw [stp_fault (s := (l, f, g)) hf]
    exact ⟨rfl, h, grown_refl _ _⟩

/-- A number that is at most most. -/
def cntD (most : Nat) (s : St) : Nat × St := if (stp s).2.2.1 = 0 ∧ ((stp s).2.2.2 = true ∨ most < (stp s).1) then (0, ((stp s).2.1, 4, (stp s).2.2.2)) else stp s
def rowsD (s : St) : Nat × St := ((cntD 20 (s.1, s.2.1, false)).1, ((cntD 20 (s.1, s.2.1, false)).2.1, (cntD 20 (s.1, s.2.1, false)).2.2.1, ((cntD 20 (s.1, s.2.1, false)).2.2.2 || s.2.2)))

set_option maxHeartbeats 4000000 in
theorem dcount_any (most : Nat) (hm : most ≤ 1000) (w0 : World) (B : Nat) (s : St) (w : World) (h : RdD w0 B s w) :
    Calls Try.prog 79 #[.pointer (some ⟨B, 0, none⟩), .int .i64 (most : Int)] w fun e w' => e = .returned (.int .i64 ((cntD most s).1 : Int)) ∧ RdD w0 B (cntD most s).2 w' ∧ w.grownBy w' (some B) := by
  have HC := Lib.hid (dnum_any w0 B s w h)
  have HD : Hid (cntD most s = if (stp s).2.2.1 = 0 ∧ ((stp s).2.2.2 = true ∨ most < (stp s).1) then (0, ((stp s).2.1, 4, (stp s).2.2.2)) else stp s) := Lib.hid rfl
  have hle := stp_le s
  clear h
  generalize cntD most s = cs at HD
  rcases hst : stp s with ⟨v, l, f, g⟩
  rw [hst] at HC HD hle
  clear hst
  have hv : (v : Int) ≤ 4611686018427387904 := by have : v ≤ 4611686018427387904 := hle; omega
  clear hle
  go_enter Try.func79, Try.ntmps79
  go_wp2_with fail
  refine HC.out.mono ?_
  rintro e w1 ⟨rfl, h1, hg1⟩
  have H1 := Lib.hid h1
  have HG := Lib.hid hg1
  obtain ⟨a1, a2, a3, A, c, a4, a5, a6⟩ := h1
  have K1 := Lib.hid a4
  have c1 := cell_heap (j := 1) a4 rfl
  have c2 := cell_heap (j := 2) a4 rfl
  have f1 := frozen_of a4 1
  have A1 := Lib.hid a1
  have A2 := Lib.hid a2
  have A3 := Lib.hid a3
  have A5 := Lib.hid a5
  have A6 := Lib.hid a6
  clear hg1 a1 a2 a3 a4 a5 a6 HC
  by_cases hf : f = 0
  · subst hf
    cases g
    · by_cases hb : most < v
      · have hb' : (most : Int) < (v : Int) := by omega
        rw [if_pos ⟨rfl, .inr hb⟩] at HD
        go_wp2_with fail
        go_ret
        rw [HD.out]
        exact ⟨rfl, ⟨A1.out, below_grown A2.out (Nat.le_refl _) (grown_set (grown_refl _ _) 1 _) A1.out, A3.out, A, c, heap_setSame K1.out 1 _, A5.out, A6.out⟩, grown_set HG.out 1 _⟩
      · have hb' : ¬ (most : Int) < (v : Int) := by omega
        rw [if_neg (by simp; omega)] at HD
        go_wp2_with fail
        go_ret
        rw [HD.out]
        exact ⟨rfl, H1.out, HG.out⟩
    · rw [if_pos ⟨rfl, .inl rfl⟩] at HD
      go_wp2_with fail
      go_ret
      rw [HD.out]
      exact ⟨rfl, ⟨A1.out, below_grown A2.out (Nat.le_refl _) (grown_set (grown_refl _ _) 1 _) A1.out, A3.out, A, c, heap_setSame K1.out 1 _, A5.out, A6.out⟩, grown_set HG.out 1 _⟩
  · have hf' : ¬ ((f : Nat) : Int) = 0 := by omega
    rw [if_neg (by simp; omega)] at HD
    go_wp2_with fail
    go_ret
    rw [HD.out]
    exact ⟨rfl, H1.out, HG.out⟩

set_option maxHeartbeats 4000000 in
theorem drows_any (w0 : World) (B : Nat) (s : St) (w : World) (h : RdD w0 B s w) :
    Calls Try.prog 82 #[.pointer (some ⟨B, 0, none⟩)] w fun e w' => e = .returned (.int .i64 ((rowsD s).1 : Int)) ∧ RdD w0 B (rowsD s).2 w' ∧ w.grownBy w' (some B) := by
  obtain ⟨l, f, g⟩ := s
  obtain ⟨a1, a2, a3, A, c, a4, a5, a6⟩ := h
  have K1 := Lib.hid (show w.heap[B]? = some (.cells #[.slice A l.length c, .int .i64 (f : Int), .bool g] 128 (0, 0)) from a4)
  have c2 := cell_heap (j := 2) K1.out rfl
  have f2 := frozen_of K1.out 2
  have HC := Lib.hid (dcount_any 20 (by omega) w0 B (l, f, false) (w.setCell ⟨B, 2, none⟩ (.bool false)) ⟨a1, below_grown a2 (Nat.le_refl _) (grown_set (grown_refl _ _) 2 _) a1, a3, A, c, heap_setSame K1.out 2 _, a5, a6⟩)
  have HD : Hid (rowsD (l, f, g) = ((cntD 20 (l, f, false)).1, ((cntD 20 (l, f, false)).2.1, (cntD 20 (l, f, false)).2.2.1, ((cntD 20 (l, f, false)).2.2.2 || g)))) := Lib.hid rfl
  clear a1 a2 a3 a4 a5 a6
  generalize rowsD (l, f, g) = rs at HD
  rcases hst : cntD 20 (l, f, false) with ⟨v, l1, f1, g1⟩
  rw [hst] at HC HD
  clear hst
  go_enter Try.func82, Try.ntmps82
  go_wp2_with fail
  refine HC.out.mono ?_
  rintro e w1 ⟨rfl, h1, hg1⟩
  have HG := Lib.hid (grown_trans (grown_set (grown_refl w _) 2 _) hg1)
  obtain ⟨a1, a2, a3, A, c, a4, a5, a6⟩ := h1
  have K1 := Lib.hid (show w1.heap[B]? = some (.cells #[.slice A l1.length c, .int .i64 (f1 : Int), .bool g1] 128 (0, 0)) from a4)
  have d2 := cell_heap (j := 2) K1.out rfl
  have e2 := frozen_of K1.out 2
  have A1 := Lib.hid a1
  have A2 := Lib.hid a2
  have A3 := Lib.hid a3
  have A5 := Lib.hid a5
  have A6 := Lib.hid a6
  clear hg1 a1 a2 a3 a4 a5 a6 HC c2 f2
  have fin : ∀ z, z = (g1 || g) → RdD w0 B (l1, f1, (g1 || g)) (w1.setCell ⟨B, 2, none⟩ (.bool z)) ∧ w.grownBy (w1.setCell ⟨B, 2, none⟩ (.bool z)) (some B) := by
    rintro z rfl
    exact ⟨⟨A1.out, below_grown A2.out (Nat.le_refl _) (grown_set (grown_refl _ _) 2 _) A1.out, A3.out, A, c, heap_setSame K1.out 2 _, A5.out, A6.out⟩, grown_set HG.out 2 _⟩
  have HF := Lib.hid fin
  clear fin
  cases g1
  · go_wp2_with fail
    go_ret
    rw [HD.out]
    exact ⟨rfl, HF.out _ (by simp)⟩
  · go_wp2_with fail
    go_ret
    rw [HD.out]
    exact ⟨rfl, HF.out _ (by simp)⟩
end Go.Proofs.Ythhkcckikmldcaa
