/-
  Breaker: the contracts of the law's right (no ticks) and alive. (Written by gen_br6.py, a program of this session's own.)
-/
import Derived.Test.YthhkcckikmldcaaBr4
import Derived.Test.YthhkcckikmldcaaBr5
set_option linter.unusedVariables false
set_option linter.unusedSimpArgs false
namespace Go.Proofs.Ythhkcckikmldcaa
open Go.RowKit

def rightB (n m : Nat) (f : Int) : Bool := (decide (n ≤ 20) && decide (m ≤ 40)) && (f == 0)
set_option maxRecDepth 100000 in
set_option maxHeartbeats 4000000 in
theorem right0_any (A : Option Addr) (n c : Nat) (B : Option Addr) (m d : Nat) (S R : Nat → Nat → Int) (x : Nat → Int) (w : World) (h : CfgIn w A n c B m d S R x) :
    Calls Try.prog 58 #[.agg #[.slice A n c, .slice B m d, .int .i64 (x 0), .int .i64 (x 1), .int .i64 (x 2), .int .i64 (x 3), .int .i64 (x 4), .int .i64 (x 5)], .slice none 0 0] w fun e w' => e = .returned (.bool (rightB n m (chkF n S m R x))) ∧ Below w.heap.size w w' := by
  have BX := below_al (Below.refl w.heap.size w) (.cells #[.slice A n c, .slice B m d, .int .i64 (x 0), .int .i64 (x 1), .int .i64 (x 2), .int .i64 (x 3), .int .i64 (x 4), .int .i64 (x 5)] 35)
  have HC := Lib.hid (check_any A n c B m d S R x (w.alloc (.cells #[.slice A n c, .slice B m d, .int .i64 (x 0), .int .i64 (x 1), .int .i64 (x 2), .int .i64 (x 3), .int .i64 (x 4), .int .i64 (x 5)] 35)) (h.below BX))
  have HL := Lib.hid (fun W => light7_any A n c B m d x W (Nat.le_trans h.nc h.cm) (Nat.le_trans h.md h.dm))
  have K0 := Lib.hid (heap_new w (.cells #[.slice A n c, .slice B m d, .int .i64 (x 0), .int .i64 (x 1), .int .i64 (x 2), .int .i64 (x 3), .int .i64 (x 4), .int .i64 (x 5)] 35))
  have HB := Lib.hid BX
  clear h BX
  obtain ⟨q, hq⟩ : ∃ q, q = rightB n m (chkF n S m R x) := ⟨_, rfl⟩
  rw [← hq]
  unfold rightB at hq
  generalize chkI n S m R x = f2 at HC
  generalize chkF n S m R x = f at HC hq
  generalize (decide (n ≤ 20) && decide (m ≤ 40)) = l at HL hq
  have HQ := Lib.hid hq
  clear hq
  go_enter Try.func58, Try.ntmps58
  go_wp2_with fail
  go_loop [5] (fun i => i = .int .i64 0) (fun i => 0)
  case atStart => rfl
  case round =>
    subst hrel
    go_wp2_with fail
    refine (HC.out).mono ?_
    rintro e w1 ⟨rfl, hb1⟩
    have g0 := block_keep hb1 (lt_of_heap K0.out) K0.out
    have g1 := g0
    have B1 := Lib.hid (below_all HB.out hb1)
    clear hb1
    go_wp2_with (first | (refine wpList_load_blk 35 _ rfl rfl _ rfl 35 _ _ _ g0 Try.underlying35 rfl (by kernel_rfl) ?_) | (refine wpList_load_blk 87 _ rfl rfl _ rfl 87 _ _ _ g1 Try.underlying87 rfl (by kernel_rfl) ?_))
    refine (HL.out _).mono ?_
    rintro e w2 ⟨rfl, hb2⟩
    have B2 := Lib.hid (below_all B1.out hb2)
    clear hb2 g0 g1
    cases l
    · go_wp2_with fail
      go_ret
      exact ⟨by rw [HQ.out]; rfl, B2.out⟩
    · go_wp2_with fail
      go_ret
      exact ⟨by rw [HQ.out]; rfl, B2.out⟩

theorem tail_pl : TailOk plX := by
  refine ⟨by decide, by decide, fun j h1 h3 => ?_, by decide, by decide, by decide, by decide, by decide, by decide⟩
  rcases (by omega : j = 1 ∨ j = 2 ∨ j = 3) with rfl | rfl | rfl <;> decide
theorem level_pl0 : levelF plX 9300 = 1 := by decide
theorem level_pl1 : levelF plX 9301 = 0 := by decide

set_option maxRecDepth 100000 in
set_option maxHeartbeats 4000000 in
theorem alive23 (w : World) : Calls Try.prog 59 #[] w fun e w' => e = .returned (.bool true) ∧ Below w.heap.size w w' := by
  have heq : ∀ W : World, (Op.equalIn 10000 87 (.agg #[.bool true, .bool false, .int .i64 20, .bool false]) (.agg #[.bool true, .bool false, .int .i64 20, .bool false])).run Try.prog W = .ok true W := fun _ => by kernel_rfl
  go_enter Try.func59, Try.ntmps59
  go_wp2_with fail
  refine (plain1 _).mono ?_
  rintro e w1 ⟨b, c, r, d, rfl, hcf, hb1⟩
  have HLa := Lib.hid (fun W => level_any (some ⟨b, 0, none⟩) 1 c (some ⟨r, 0, none⟩) 3 d plX 9300 W tail_pl (by omega))
  have HLb := Lib.hid (fun W => level_any (some ⟨b, 0, none⟩) 1 c (some ⟨r, 0, none⟩) 3 d plX 9301 W tail_pl (by omega))
  rw [level_pl0] at HLa
  rw [level_pl1] at HLb
  have HI := Lib.hid (fun W => index_1ff (some ⟨b, 0, none⟩) 1 c (some ⟨r, 0, none⟩) 3 d plX 0 5 9300 (by omega) W HLa)
  rw [show wrap64 (5 + plX 4) = 20 from by unfold wrap64; decide] at HI
  have HH := Lib.hid (fun W => halted_any true false false 20 19 W)
  rw [show haltedB 20 false 19 = true from by decide] at HH
  have hc0 := heap_new w1 (.cells #[.slice (some ⟨b, 0, none⟩) 1 c, .slice (some ⟨r, 0, none⟩) 3 d, .int .i64 10000, .int .i64 700, .int .i64 1300, .int .i64 2000, .int .i64 15, .int .i64 30] 35)
  have B1 := Lib.hid (below_al hb1 (.cells #[.slice (some ⟨b, 0, none⟩) 1 c, .slice (some ⟨r, 0, none⟩) 3 d, .int .i64 10000, .int .i64 700, .int .i64 1300, .int .i64 2000, .int .i64 15, .int .i64 30] 35))
  have hc1 := hc0
  clear hcf hb1
  go_wp2_with (first | (refine wpList_load_blk 35 _ rfl rfl _ rfl 35 _ _ _ hc0 Try.underlying35 rfl (by kernel_rfl) ?_) | (refine wpList_load_blk 87 _ rfl rfl _ rfl 87 _ _ _ hc1 Try.underlying87 rfl (by kernel_rfl) ?_))
  refine (HI.out _).mono ?_
  rintro e w2 ⟨rfl, hb2⟩
  have hb2' := below_al (below_all (Below.refl _ _) hb2) (.cells #[.bool true, .bool false, .int .i64 20, .bool false] 87)
  have g0 := block_keep hb2' (lt_of_heap hc0) hc0
  have g1 := heap_new w2 (.cells #[.bool true, .bool false, .int .i64 20, .bool false] 87)
  have B2 := Lib.hid (below_all B1.out hb2')
  clear hb2 hb2' hc0 hc1
  go_wp2_with (first | (refine wpList_load_blk 35 _ rfl rfl _ rfl 35 _ _ _ g0 Try.underlying35 rfl (by kernel_rfl) ?_) | (refine wpList_load_blk 87 _ rfl rfl _ rfl 87 _ _ _ g1 Try.underlying87 rfl (by kernel_rfl) ?_))
  refine (HLa.out _).mono ?_
  rintro e w3 ⟨rfl, hb3⟩
  have d0 := block_keep hb3 (lt_of_heap g0) g0
  have d1 := block_keep hb3 (lt_of_heap g1) g1
  have B3 := Lib.hid (below_all B2.out hb3)
  clear hb3 g0 g1
  go_wp2_with (first | (refine wpList_load_blk 35 _ rfl rfl _ rfl 35 _ _ _ d0 Try.underlying35 rfl (by kernel_rfl) ?_) | (refine wpList_load_blk 87 _ rfl rfl _ rfl 87 _ _ _ d1 Try.underlying87 rfl (by kernel_rfl) ?_))
  refine (HLb.out _).mono ?_
  rintro e w4 ⟨rfl, hb4⟩
  have e0 := block_keep hb4 (lt_of_heap d0) d0
  have e1 := block_keep hb4 (lt_of_heap d1) d1
  have B4 := Lib.hid (below_all B3.out hb4)
  clear hb4 d0 d1
  go_wp2_with (first | (refine wpList_load_blk 35 _ rfl rfl _ rfl 35 _ _ _ e0 Try.underlying35 rfl (by kernel_rfl) ?_) | (refine wpList_load_blk 87 _ rfl rfl _ rfl 87 _ _ _ e1 Try.underlying87 rfl (by kernel_rfl) ?_))
  refine (HH.out _).mono ?_
  rintro e w5 ⟨rfl, hb5⟩
  go_wp2_with fail
  go_ret
  exact ⟨rfl, below_all B4.out hb5⟩

end Go.Proofs.Ythhkcckikmldcaa
