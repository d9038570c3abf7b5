/-
  Octets: the contract of the writer's Num.
-/
import Derived.Test.YthhkcckikmldcaaEnc1
import Derived.Test.YthhkcckikmldcaaPe1
set_option linter.unusedVariables false
set_option linter.unusedSimpArgs false
namespace Go.Proofs.Ythhkcckikmldcaa
open Go.RowKit

/-- Whatever is no row of bytes, and is not block B, lies as it lay. -/
def Kept (B : Nat) (w w' : World) : Prop := ∀ k cs t fr, w.heap[k]? = some (.cells cs t fr) → k ≠ B → t ≠ 5 → w'.heap[k]? = some (.cells cs t fr)
theorem Kept.refl (B : Nat) (w : World) : Kept B w w := fun _ _ _ _ h _ _ => h
theorem Kept.trans {B : Nat} {w w1 w2 : World} (h : Kept B w w1) (k : Kept B w1 w2) : Kept B w w2 := fun i cs t fr hi hne ht => k i cs t fr (h i cs t fr hi hne ht) hne ht
theorem Kept.alloc (B : Nat) (w : World) (o : Obj) : Kept B w (w.alloc o) := fun i cs t fr hi _ _ => alloc_old o hi
theorem Kept.of_below {w w1 : World} (B : Nat) (h : Below w.heap.size w w1) : Kept B w w1 := fun i cs t fr hi _ _ => block_keep h (lt_of_heap hi) hi

theorem own_not {base B : Nat} {v : Value} {l : List UInt8} {w : World} {cs : Array Value} {t : TypeId} {fr : Nat × Nat} (h : Own1 base v l w) (hB : w.heap[B]? = some (.cells cs t fr)) (ht : t ≠ 5) : v.ownBlock ≠ some B := by
  unfold Own1 at h
  rcases h.2 with ⟨e, _⟩ | ⟨g, cap, cur, hv, _, hg, _⟩
  · rw [e]; intro h; cases h
  · rw [hv]
    intro h
    simp [Value.ownBlock] at h
    subst h
    rw [hg] at hB
    simp at hB
    exact ht hB.2.1.symm
theorem Own1.kept {base : Nat} {v : Value} {l : List UInt8} {w w' : World} {row : Option Nat} (h : Own1 base v l w) (hg : w.grownBy w' row) (hne : v.ownBlock ≠ row) : Own1 base v l w' := World.ownsRow.kept h hg (.inr hne)

/-- The writer at block B has put the bytes l. -/
def Wr (base B : Nat) (l : List UInt8) (w : World) : Prop := base ≤ B ∧ ∃ v, w.heap[B]? = some (.cells #[v] 134 (0, 0)) ∧ Own1 base v l w

theorem wr_pre {base B : Nat} {v : Value} {l : List UInt8} {wr w1 : World} {o : Obj} (hB : wr.heap[B]? = some (.cells #[v] 134 (0, 0))) (hO : Own1 base v l wr) (hg : (wr.alloc o).grownBy w1 v.ownBlock) : w1.heap[B]? = some (.cells #[v] 134 (0, 0)) :=
  (hg.block B (by have := lt_of_heap hB; simp; omega) (fun e => own_not hO hB (by decide) e.symm)).trans (alloc_old o hB)
theorem setCell_grown (w : World) (b i : Nat) (v : Value) : w.grownBy (w.setCell ⟨b, i, none⟩ v) (some b) := Lib.grownBy_setCell w b i v
theorem wr_snoc {base B : Nat} {v v' : Value} {l l' : List UInt8} {wr w1 : World} {o : Obj} (hb : base ≤ B) (hB : wr.heap[B]? = some (.cells #[v] 134 (0, 0))) (hO : Own1 base v l wr) (hw : base ≤ wr.heap.size) (hg : (wr.alloc o).grownBy w1 v.ownBlock) (hO' : Own1 base v' l' w1) :
    (w1.setCell ⟨B, 0, none⟩ v').heap[B]? = some (.cells #[v'] 134 (0, 0)) ∧ Own1 base v' l' (w1.setCell ⟨B, 0, none⟩ v') ∧ Kept B wr (w1.setCell ⟨B, 0, none⟩ v') ∧ Below base wr (w1.setCell ⟨B, 0, none⟩ v') := by
  have h1 := wr_pre hB hO hg
  refine ⟨heap_setSame h1 0 v', hO'.kept (setCell_grown _ _ _ _) (own_not hO' h1 (by decide)), fun k cs t fr hk hne ht => ?_, ?_⟩
  · have h2 : w1.heap[k]? = some (.cells cs t fr) := (hg.block k (by have := lt_of_heap hk; simp; omega) (fun e => own_not hO hk ht e.symm)).trans (alloc_old o hk)
    exact heap_setOther h2 hne 0 v'
  · exact (((Below.refl base wr).alloc hw o).grown hg (by simp; omega) (fun k e => (World.ownsRow.lt hO k e).1)).setCell hb v'

set_option maxRecDepth 100000 in
theorem or128 : ∀ k : Fin 256, bits BinOp.or IntKind.u8 ((k.val : Nat) : Int) 128 = ((k.val % 128 + 128 : Nat) : Int) := by decide
theorem or_byte (k : Nat) : bits BinOp.or IntKind.u8 ((k : Int) % 256) 128 = ((UInt8.ofNat (k % 128 + 128)).toNat : Int) := by
  have h : bits BinOp.or IntKind.u8 ((k % 256 : Nat) : Int) 128 = ((k % 256 % 128 + 128 : Nat) : Int) := or128 ⟨k % 256, Nat.mod_lt _ (by omega)⟩
  rw [show (k : Int) % 256 = ((k % 256 : Nat) : Int) by omega, h, ← byte_of (by omega)]
  omega

set_option maxHeartbeats 2000000 in
theorem wnum_any (n : Nat) (hn : n < 18446744073709551616) (base B : Nat) (l : List UInt8) (hl0 : l.length ≤ 1000000) (w : World) (h : Wr base B l w) (hw : base ≤ w.heap.size) :
    Calls Try.prog 84 #[.pointer (some ⟨B, 0, none⟩), .int .u64 n] w fun e w' => e = .returned (.pointer (some ⟨B, 0, none⟩)) ∧ Wr base B (l ++ numL n) w' ∧ Below base w w' ∧ Kept B w w' := by
  obtain ⟨i0, hi, hz0, hz1, hz2⟩ := info_parts Try.info5
  have HI := Lib.hid hi
  have HZ0 := Lib.hid hz0
  have HZ1 := Lib.hid hz1
  have HZ2 := Lib.hid hz2
  obtain ⟨hb, v0, hB0, hO0⟩ := h
  have HB0 := Lib.hid hB0
  have HO0 := Lib.hid hO0
  clear hi hz0 hz1 hz2 hB0 hO0
  go_enter Try.func84, Try.ntmps84
  go_wp2
  go_loopw [1] (fun s wr => ∃ (k : Nat) (d : List UInt8) (v : Value), s = .int .u64 (k : Int) ∧ k ≤ n ∧ Hid (d ++ numL k = numL n) ∧ Hid (wr.heap[B]? = some (.cells #[v] 134 (0, 0))) ∧ Hid (Own1 base v (l ++ d) wr) ∧ Hid (Below base w wr) ∧ Hid (Kept B w wr)) (fun s _ => (intOf s).toNat)
  case atStart => exact ⟨n, [], v0, rfl, Nat.le_refl _, Lib.hid rfl, HB0, by rw [List.append_nil]; exact HO0, Lib.hid (Below.refl _ _), Lib.hid (Kept.refl _ _)⟩
  case round =>
    obtain ⟨k, d, v, rfl, hk, HL, HC, HO, HB, HK⟩ := hrel
    have hown := HO.out
    unfold Own1 at hown
    have hb3 := HB.out.size
    have hl : (l ++ d).length ≤ 1000009 := by
      have h1 := congrArg List.length HL.out
      rw [List.length_append] at h1
      have := numL_pos k
      have := numL_len n 9 (by simpa using Nat.lt_trans hn (by decide))
      rw [List.length_append]
      omega
    have c0 := cell_heap (j := 0) HC.out rfl
    have f0 := frozen_pa HC.out 0
    by_cases h1 : k < 128
    · have h1' : ¬ (128 : Int) ≤ (k : Int) := by omega
      go_wp2_with (at_builtin; refine wpList_append_own _ rfl (.tmp 27) (.tmp 30) 30 rfl base 5 i0 (.int .u8 0) 1 1 Try.underlying30 HI.out HZ0.out HZ1.out HZ2.out rfl (by decide) _ _ _ rfl (hown.alloc _) ⟨wr.heap.size, 0, none⟩ 1 1 [.int .u8 ((k : Int))] rfl rfl (news1 wr _) (news1_one _) (by unfold maxLen; omega) (by omega) (by simp; omega) ?_; intro v' w1 hown1 hgrow _; obtain ⟨g', cap', rfl, _, _⟩ := World.ownsRow.form hown1 (Nat.succ_pos _); have S1 := Lib.hid (wr_snoc hb HC.out HO.out (Nat.le_trans hw hb3) hgrow (snoc1_own _ (byte_of (by omega)) hown1)); have c1 := cell_heap (j := 0) (wr_pre HC.out HO.out hgrow) rfl; have f1 := frozen_pa (wr_pre HC.out HO.out hgrow) 0; clear hown hown1 hgrow hb3 hl c0 f0)
      go_ret
      have S2 := S1.out
      rw [List.length_append] at S2
      obtain ⟨a1, a2, a3, a4⟩ := S2
      exact ⟨rfl, ⟨hb, _, a1, by rw [← HL.out, numL_small h1, ← List.append_assoc]; exact a2⟩, HB.out.trans a4, HK.out.trans a3⟩
    · have h1' : (128 : Int) ≤ (k : Int) := by omega
      go_wp2_with (at_builtin; refine wpList_append_own _ rfl (.tmp 15) (.tmp 19) 30 rfl base 5 i0 (.int .u8 0) 1 1 Try.underlying30 HI.out HZ0.out HZ1.out HZ2.out rfl (by decide) _ _ _ rfl (hown.alloc _) ⟨wr.heap.size, 0, none⟩ 1 1 [.int .u8 (bits BinOp.or IntKind.u8 ((k : Int) % 256) 128)] rfl rfl (news1 wr _) (news1_one _) (by unfold maxLen; omega) (by omega) (by simp; omega) ?_; intro v' w1 hown1 hgrow _; obtain ⟨g', cap', rfl, _, _⟩ := World.ownsRow.form hown1 (Nat.succ_pos _); have S1 := Lib.hid (wr_snoc hb HC.out HO.out (Nat.le_trans hw hb3) hgrow (snoc1_own _ (or_byte k) hown1)); have c1 := cell_heap (j := 0) (wr_pre HC.out HO.out hgrow) rfl; have f1 := frozen_pa (wr_pre HC.out HO.out hgrow) 0; clear hown hown1 hgrow hb3 hl c0 f0)
      go_roundw
      case rel =>
        have S2 := S1.out
        rw [List.length_append] at S2
        obtain ⟨a1, a2, a3, a4⟩ := S2
        exact ⟨k / 128, d ++ [UInt8.ofNat (k % 128 + 128)], _, by go_num, by omega, by rw [List.append_assoc]; rw [← HL.out, numL_big h1]; exact Lib.hid rfl, Lib.hid a1, by rw [← List.append_assoc]; exact Lib.hid a2, Lib.hid (HB.out.trans a4), Lib.hid (HK.out.trans a3)⟩
      case measure => simp [intOf]; omega
end Go.Proofs.Ythhkcckikmldcaa
