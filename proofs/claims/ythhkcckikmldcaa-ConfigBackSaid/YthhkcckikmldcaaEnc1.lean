/-
  Octets: a number's bytes; the contract of the document's Num; when two byte slices are the same.
-/
import Derived.Test.YthhkcckikmldcaaOct
import Derived.Test.YthhkcckikmldcaaCfg7
import Derived.Test.YthhkcckikmldcaaBase2
import Derived.Deep.AppendLies
import Derived.Laws.Rows
import Derived.Laws.IdiomStrings
import Derived.Lib.BufferRead
set_option linter.unusedVariables false
set_option linter.unusedSimpArgs false
namespace Go.Proofs.Ythhkcckikmldcaa
open Go.RowKit

def bcs (l : List UInt8) : List Value := l.map fun b => Value.int .u8 (b.toNat : Int)
theorem bcs_len (l : List UInt8) : (bcs l).length = l.length := by simp [bcs]
theorem bcs_app (l l' : List UInt8) : bcs (l ++ l') = bcs l ++ bcs l' := by simp [bcs]
theorem bcs_one (l : List UInt8) : ∀ u ∈ bcs l, u.oneCell' = true := by
  intro u hu; simp [bcs] at hu; obtain ⟨x, _, rfl⟩ := hu; rfl

theorem Try.info5 : (Try.prog.info? 5).map (fun i => (i.zero, i.size, i.bytes)) = some (some (.int .u8 0), 1, 1) := by kernel_rfl

/-- A slice of the call's own that holds bytes. -/
def Own1 (base : Nat) (v : Value) (l : List UInt8) (w : World) : Prop := w.ownsRow base 5 1 v l.length (bcs l)
/-- A slice's bytes. -/
def RB (w : World) (A : Option Addr) (l : List UInt8) : Prop := 0 < l.length → ∃ b off, A = some ⟨b, off, none⟩ ∧ ∀ j (hj : j < l.length), w.cell? ⟨b, off + j, none⟩ = some (.int .u8 (l[j].toNat : Int))
theorem RB.below {w w1 : World} {A : Option Addr} {l : List UInt8} (h : RB w A l) (hb : Below w.heap.size w w1) : RB w1 A l := fun hn => by
  obtain ⟨b, off, e, hc⟩ := h hn
  exact ⟨b, off, e, fun j hj => bcell hb (hc j hj)⟩
theorem Own1.reads {B : Nat} {v : Value} {l : List UInt8} {w : World} (h : Own1 B v l w) : ∃ A c, v = .slice A l.length c ∧ RB w A l := by
  unfold Own1 at h
  rcases h.2 with ⟨e, h0⟩ | ⟨g, cap, cur, hv, hb, hg, _⟩
  · exact ⟨none, 0, by rw [e, h0], fun h => by omega⟩
  · refine ⟨_, cap, hv, fun hn => ⟨g, 0, rfl, fun j hj => ?_⟩⟩
    have := h.cells (g := g) (by rw [hv]; rfl) j (.int .u8 (l[j].toNat : Int)) (by simp [bcs, hj])
    rwa [show (⟨g, 0, none⟩ : Addr).add j = ⟨g, 0 + j, none⟩ by unfold Addr.add; split <;> simp_all] at this

theorem Try.u9 : Try.prog.underlying 9 = some .string := by kernel_rfl
theorem conv_str {w : World} {A : Option Addr} {l : List UInt8} (c : Nat) (h : RB w A l) : (convert 30 9 (.slice A l.length c)).run Try.prog w = .ok (.string ⟨l.toArray⟩) w := by
  cases A with
  | none =>
    have : l = [] := by
      cases l with
      | nil => rfl
      | cons x l => obtain ⟨b, off, e, _⟩ := h (by simp); cases e
    subst this
    exact Lib.run_convert_nil_bytes w 30 9 5 c Try.underlying30 Try.underlying5 Try.u9
  | some a =>
    refine run_convert_bytes_back w 30 9 5 a c l Try.underlying30 Try.underlying5 Try.u9 fun j hj => ?_
    obtain ⟨b, off, e, hc⟩ := h (by omega)
    cases e
    rw [show (⟨b, off, none⟩ : Addr).add j = ⟨b, off + j, none⟩ by unfold Addr.add; split <;> simp_all]
    exact hc j hj

set_option maxHeartbeats 1000000 in
theorem sameBytes (A A' : Option Addr) (l : List UInt8) (c c' : Nat) (w : World) (h : RB w A l) (h' : RB w A' l) :
    Calls Try.prog 35 #[.slice A l.length c, .slice A' l.length c'] w fun e w' => e = .returned (.bool true) ∧ w' = w := by
  have h1 := conv_str c h
  have h2 := conv_str c' h'
  go_enter Try.func35, Try.ntmps35
  go_wp2
  go_ret
  exact ⟨rfl, rfl⟩

theorem snoc1_below {w wr w1 : World} {o : Obj} {v : Value} (B : Nat) (hB : B ≤ w.heap.size) (h : Below B w wr) (hg : (wr.alloc o).grownBy w1 v.ownBlock) (hl : ∀ k, v.ownBlock = some k → B ≤ k ∧ k < wr.heap.size) : Below B w w1 :=
  (h.alloc (Nat.le_trans hB h.size) o).grown hg (by have := h.size; simp; omega) (fun k e => (hl k e).1)
theorem news1 (W : World) (z : Int) : ∀ j u, [Value.int .u8 z][j]? = some u → (W.alloc (.cells #[.int .u8 z] 5)).cell? ((⟨W.heap.size, 0, none⟩ : Addr).add j) = some u :=
  World.news_of_block (cs := #[.int .u8 z]) (t := 5) (fr := (0, 0)) (heap_new W _)
theorem news1_one (z : Int) : ∀ u ∈ [Value.int .u8 z], u.oneCell' = true := by
  intro u hu; simp at hu; subst hu; rfl
theorem snoc1_own {B : Nat} {v : Value} {l : List UInt8} {w : World} {z : Int} (x : UInt8) (hz : z = (x.toNat : Int)) (h : w.ownsRow B 5 1 v (l.length + 1) (bcs l ++ [.int .u8 z])) : Own1 B v (l ++ [x]) w := by
  subst hz
  unfold Own1; rw [bcs_app, List.length_append]; exact h
theorem byte_of {k : Nat} (h : k < 256) : (k : Int) = ((UInt8.ofNat k).toNat : Int) := by
  rw [UInt8.toNat_ofNat_of_lt' (by simpa using h)]

theorem byte_of' (k : Nat) : (k : Int) % 128 + 128 = ((UInt8.ofNat (k % 128 + 128)).toNat : Int) := by
  have := byte_of (k := k % 128 + 128) (by omega)
  rw [← this]
  omega

set_option maxHeartbeats 2000000 in
theorem refNum_any (n : Nat) (hn : n < 18446744073709551616) (w : World) :
    Calls Try.prog 115 #[.int .u64 n] w fun e w' => ∃ v, e = .returned v ∧ Own1 w.heap.size v (numL n) w' ∧ Below w.heap.size w w' := by
  obtain ⟨i0, hi, hz0, hz1, hz2⟩ := info_parts Try.info5
  have HI := Lib.hid hi
  have HZ0 := Lib.hid hz0
  have HZ1 := Lib.hid hz1
  have HZ2 := Lib.hid hz2
  clear hi hz0 hz1 hz2
  go_enter Try.func115, Try.ntmps115
  go_wp2
  go_loopw [0, 3] (fun s v wr => ∃ (k : Nat) (l : List UInt8), s = .int .u64 (k : Int) ∧ k ≤ n ∧ Hid (l ++ numL k = numL n) ∧ Hid (Own1 w.heap.size v l wr) ∧ Hid (Below w.heap.size w wr)) (fun s _ _ => (intOf s).toNat)
  case atStart => exact ⟨n, [], rfl, Nat.le_refl _, Lib.hid rfl, Lib.hid (World.ownsRow_nil _ _ _ _), Lib.hid (Below.refl _ _)⟩
  case round =>
    obtain ⟨k, l, rfl, hk, HL, HO, HB⟩ := hrel
    have hown := HO.out
    unfold Own1 at hown
    have hb3 := HB.out.size
    have hl : l.length ≤ 9 := by
      have h1 := congrArg List.length HL.out
      rw [List.length_append] at h1
      have := numL_pos k
      have := numL_len n 9 (by simpa using Nat.lt_trans hn (by decide))
      omega
    by_cases h1 : k < 128
    · have h1' : ¬ (127 : Int) < (k : Int) := by omega
      go_wp2_with (at_builtin; refine wpList_append_own _ rfl (.tmp 15) (.tmp 18) 30 rfl w.heap.size 5 i0 (.int .u8 0) 1 1 Try.underlying30 HI.out HZ0.out HZ1.out HZ2.out rfl (by decide) _ _ _ rfl (hown.alloc _) ⟨wr.heap.size, 0, none⟩ 1 1 [.int .u8 ((k : Int))] rfl rfl (news1 wr _) (news1_one _) (by unfold maxLen; omega) (by omega) (by simp; omega) ?_; intro v' w1 hown1 hgrow _; have B1 := Lib.hid (snoc1_below w.heap.size (Nat.le_refl _) HB.out hgrow hown.lt); have O1 := Lib.hid hown1; clear hown hown1 hgrow hb3 hl)
      go_ret
      exact ⟨_, rfl, by rw [← HL.out, numL_small h1]; exact snoc1_own _ (byte_of (by omega)) O1.out, B1.out⟩
    · have h1' : (127 : Int) < (k : Int) := by omega
      go_wp2_with (at_builtin; refine wpList_append_own _ rfl (.tmp 6) (.tmp 11) 30 rfl w.heap.size 5 i0 (.int .u8 0) 1 1 Try.underlying30 HI.out HZ0.out HZ1.out HZ2.out rfl (by decide) _ _ _ rfl (hown.alloc _) ⟨wr.heap.size, 0, none⟩ 1 1 [.int .u8 ((k : Int) % 128 + 128)] rfl rfl (news1 wr _) (news1_one _) (by unfold maxLen; omega) (by omega) (by simp; omega) ?_; intro v' w1 hown1 hgrow _; have B1 := Lib.hid (snoc1_below w.heap.size (Nat.le_refl _) HB.out hgrow hown.lt); have O1 := Lib.hid hown1; clear hown hown1 hgrow hb3 hl)
      go_roundw
      case rel => exact ⟨k / 128, l ++ [UInt8.ofNat (k % 128 + 128)], by go_num, by omega, by rw [List.append_assoc]; rw [← HL.out, numL_big h1]; exact Lib.hid rfl, Lib.hid (snoc1_own _ (byte_of' k) O1.out), B1⟩
      case measure => simp [intOf]; omega
end Go.Proofs.Ythhkcckikmldcaa
