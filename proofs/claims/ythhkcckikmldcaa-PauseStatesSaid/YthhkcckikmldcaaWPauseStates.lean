/-
  The walk of PauseStates. (Written by gen_wps.py, a program of this session's own.)
-/
import Derived.Test.YthhkcckikmldcaaPa3
import Derived.Deep.RegionHeld3
import Derived.Deep.CutRange
set_option linter.unusedVariables false
set_option linter.unusedSimpArgs false
namespace Go.Proofs.Ythhkcckikmldcaa
open Go.RowKit

def twoG (a b : Int) : Nat → Int
  | 0 => a
  | _ + 1 => b

set_option maxRecDepth 100000 in
set_option maxHeartbeats 16000000 in
theorem walkPauseStates (w : World) (g : Nat → Int) (hg : ∀ j, j < 16 → i64Ok (g j)) (s : Nat → Int) (hs : ∀ j, j < 3 → i64Ok (s j)) (a : Int) (ha : -9223372036854775808 ≤ a ∧ a ≤ 9223372036854775807) (b : Int) (hbb : -9223372036854775808 ≤ b ∧ b ≤ 9223372036854775807) :
    Calls Try.prog 9 #[.agg #[.int .i64 (g 0), .int .i64 (g 1), .int .i64 (g 2), .int .i64 (g 3), .int .i64 (g 4), .int .i64 (g 5), .int .i64 (g 6), .int .i64 (g 7), .int .i64 (g 8), .int .i64 (g 9), .int .i64 (g 10), .int .i64 (g 11), .int .i64 (g 12), .int .i64 (g 13), .int .i64 (g 14), .int .i64 (g 15)], .agg #[.int .i64 (s 0), .int .i64 (s 1), .int .i64 (s 2)], .int .i64 a, .int .i64 b] w fun e w' => e = .returned (.bool true) ∧ Below w.heap.size w w' := by
  have h2 : (((w.alloc (.cells #[.int .i64 (g 0), .int .i64 (g 1), .int .i64 (g 2), .int .i64 (g 3), .int .i64 (g 4), .int .i64 (g 5), .int .i64 (g 6), .int .i64 (g 7), .int .i64 (g 8), .int .i64 (g 9), .int .i64 (g 10), .int .i64 (g 11), .int .i64 (g 12), .int .i64 (g 13), .int .i64 (g 14), .int .i64 (g 15)] 56)).alloc (.cells #[.int .i64 (s 0), .int .i64 (s 1), .int .i64 (s 2)] 58)).alloc (.cells #[.int .i64 a, .int .i64 b] 2)).heap[w.heap.size + 1 + 1]? = some (.cells #[.int .i64 a, .int .i64 b] 2 (0, 0)) := alloc_new _ (by simp)
  have HL := Lib.hid (light22_any g (s 0) (s 1) (s 2) (some ⟨w.heap.size + 1 + 1, 0, none⟩) 2 2 (twoG a b) (((w.alloc (.cells #[.int .i64 (g 0), .int .i64 (g 1), .int .i64 (g 2), .int .i64 (g 3), .int .i64 (g 4), .int .i64 (g 5), .int .i64 (g 6), .int .i64 (g 7), .int .i64 (g 8), .int .i64 (g 9), .int .i64 (g 10), .int .i64 (g 11), .int .i64 (g 12), .int .i64 (g 13), .int .i64 (g 14), .int .i64 (g 15)] 56)).alloc (.cells #[.int .i64 (s 0), .int .i64 (s 1), .int .i64 (s 2)] 58)).alloc (.cells #[.int .i64 a, .int .i64 b] 2)) (by omega) (fun _ => ⟨_, _, rfl, fun i hi => by
    rcases (by omega : i = 0 ∨ i = 1) with rfl | rfl
    · exact cell_heap h2 rfl
    · exact cell_heap h2 rfl⟩) (fun j hj => (hg j hj).2))
  have h0 : (((w.alloc (.cells #[.int .i64 (g 0), .int .i64 (g 1), .int .i64 (g 2), .int .i64 (g 3), .int .i64 (g 4), .int .i64 (g 5), .int .i64 (g 6), .int .i64 (g 7), .int .i64 (g 8), .int .i64 (g 9), .int .i64 (g 10), .int .i64 (g 11), .int .i64 (g 12), .int .i64 (g 13), .int .i64 (g 14), .int .i64 (g 15)] 56)).alloc (.cells #[.int .i64 (s 0), .int .i64 (s 1), .int .i64 (s 2)] 58)).alloc (.cells #[.int .i64 a, .int .i64 b] 2)).heap[w.heap.size]? = some (.cells #[.int .i64 (g 0), .int .i64 (g 1), .int .i64 (g 2), .int .i64 (g 3), .int .i64 (g 4), .int .i64 (g 5), .int .i64 (g 6), .int .i64 (g 7), .int .i64 (g 8), .int .i64 (g 9), .int .i64 (g 10), .int .i64 (g 11), .int .i64 (g 12), .int .i64 (g 13), .int .i64 (g 14), .int .i64 (g 15)] 56 (0, 0)) := alloc_old _ (alloc_old _ (heap_new _ _))
  have h1 : (((w.alloc (.cells #[.int .i64 (g 0), .int .i64 (g 1), .int .i64 (g 2), .int .i64 (g 3), .int .i64 (g 4), .int .i64 (g 5), .int .i64 (g 6), .int .i64 (g 7), .int .i64 (g 8), .int .i64 (g 9), .int .i64 (g 10), .int .i64 (g 11), .int .i64 (g 12), .int .i64 (g 13), .int .i64 (g 14), .int .i64 (g 15)] 56)).alloc (.cells #[.int .i64 (s 0), .int .i64 (s 1), .int .i64 (s 2)] 58)).alloc (.cells #[.int .i64 a, .int .i64 b] 2)).heap[w.heap.size + 1]? = some (.cells #[.int .i64 (s 0), .int .i64 (s 1), .int .i64 (s 2)] 58 (0, 0)) := alloc_old _ (alloc_new _ (by simp))
  have K0 := Lib.hid h0
  have K1 := Lib.hid h1
  have HG := Lib.hid hg
  clear h0 h1 h2 hs hg
  generalize (tickOk (twoG a b) 2 && lightB g (s 1) (s 2)) = R at HL
  cases R
  · as_aux_lemma =>
    go_enter Try.func9, Try.ntmps9
    go_wp2_with fail
    refine (HL.out).mono ?_
    rintro e w1 ⟨rfl, hb1⟩
    go_wp2_with fail
    refine (alive22 _).mono ?_
    rintro e w2 ⟨rfl, hb2⟩
    go_wp2_with fail
    go_ret
    exact ⟨rfl, below_all (below_all (below_al (below_al (below_al (Below.refl _ _) _) _) _) hb1) hb2⟩
  · have H43 := Lib.hid (fun W => begin_any g a W)
    have H44 := Lib.hid (fun W => refBegin_any g a W)
    have H45 := Lib.hid (fun W => shift_any (s 0) (s 1) (s 2) b W)
    have H46 := Lib.hid (fun W => refShift_any (s 0) (s 1) (s 2) b W)
    have H47 := Lib.hid (fun W => extend_any g (s 0) (s 1) (s 2) W)
    have H48 := Lib.hid (fun W => refExtend_any g (s 0) (s 1) (s 2) W)
    have H49 := Lib.hid (fun W => latest_any g a W (fun j hj => (HG.out j hj).2))
    have H50 := Lib.hid (fun W => refLatest_any g a W (fun j hj => (HG.out j hj).2))
    have HD := Lib.hid (fun W => due_any (s 0) (s 1) (s 2) W)
    have HE := Lib.hid (fun W => refDue_any (s 0) (s 1) (s 2) W)
    generalize wrap64 (a + g 7) = n1 at H43 H44
    generalize shU (s 0) (s 2) b = n2 at H45 H46
    generalize wrap64 (s 1 + 1) = n3 at H47 H48
    generalize wrap64 (s 2 + g 8) = n4 at H47 H48
    generalize wrap64 (a + boundF g) = n5 at H49 H50
    generalize dueT (s 0) (s 2) = n6 at HD HE
    generalize goesB (s 0) = n7 at HD HE
    go_enter Try.func9, Try.ntmps9
    go_wp2_with fail
    refine (HL.out).mono ?_
    rintro e w1 ⟨rfl, hb1⟩
    have g0 := block_keep hb1 (lt_of_heap K0.out) K0.out
    have g1 := block_keep hb1 (lt_of_heap K1.out) K1.out
    have B1 := Lib.hid hb1
    clear hb1 HL
    go_wp2_with (first | (refine wpList_load_blk 56 _ rfl rfl _ rfl 56 _ _ _ g0 Try.underlying56 rfl (by kernel_rfl) ?_) | (refine wpList_load_blk 58 _ rfl rfl _ rfl 58 _ _ _ g1 Try.underlying58 rfl (by kernel_rfl) ?_))
    refine (own_any _ _ _ _).mono ?_
    rintro e w2 ⟨rfl, hb2⟩
    go_wp2_with fail
    refine (HD.out _).mono ?_
    rintro e w2' ⟨rfl, hb2'⟩
    have hb := below_all hb2 hb2'
    have d0 := block_keep hb (lt_of_heap g0) g0
    have d1 := block_keep hb (lt_of_heap g1) g1
    have B2 := Lib.hid (below_all B1.out hb)
    clear hb hb2 hb2' g0 g1
    go_upto_region 4 with fail
    go_cut [11, 12] from 13 to 31 (fun s11 s12 wx => s11 = .int .i64 n6 ∧ s12 = .bool n7 ∧ Hid (Below w.heap.size w wx) ∧ Hid (wx.heap[w.heap.size]? = some (.cells #[.int .i64 (g 0), .int .i64 (g 1), .int .i64 (g 2), .int .i64 (g 3), .int .i64 (g 4), .int .i64 (g 5), .int .i64 (g 6), .int .i64 (g 7), .int .i64 (g 8), .int .i64 (g 9), .int .i64 (g 10), .int .i64 (g 11), .int .i64 (g 12), .int .i64 (g 13), .int .i64 (g 14), .int .i64 (g 15)] 56 (0, 0))) ∧ Hid (wx.heap[w.heap.size + 1]? = some (.cells #[.int .i64 (s 0), .int .i64 (s 1), .int .i64 (s 2)] 58 (0, 0))))
    case first =>
      as_aux_lemma =>
      go_wp2_with (first | (refine wpList_load_blk 56 _ rfl rfl _ rfl 56 _ _ _ d0 Try.underlying56 rfl (by kernel_rfl) ?_) | (refine wpList_load_blk 58 _ rfl rfl _ rfl 58 _ _ _ d1 Try.underlying58 rfl (by kernel_rfl) ?_))
      refine (HE.out _).mono ?_
      rintro e w3 ⟨rfl, hb3⟩
      have f0 := block_keep hb3 (lt_of_heap d0) d0
      have f1 := block_keep hb3 (lt_of_heap d1) d1
      have B3 := Lib.hid (below_all B2.out hb3)
      go_wp2_with fail
      go_meet
      case rel => exact ⟨rfl, rfl, Lib.hid (below_all (below_al (below_al (below_al (Below.refl _ _) _) _) _) B3.out), f0, f1⟩
    case rest =>
    obtain ⟨rfl, rfl, B3, Y0, Y1⟩ := hcut
    clear HE d0 d1 B2 K0 K1 B1 HG
    generalize Value.agg #[.int .i64 (g 0), .int .i64 (g 1), .int .i64 (g 2), .int .i64 (g 3), .int .i64 (g 4), .int .i64 (g 5), .int .i64 (g 6), .int .i64 (g 7), .int .i64 (g 8), .int .i64 (g 9), .int .i64 (g 10), .int .i64 (g 11), .int .i64 (g 12), .int .i64 (g 13), .int .i64 (g 14), .int .i64 (g 15)] = V0
    generalize Value.agg #[.int .i64 (s 0), .int .i64 (s 1), .int .i64 (s 2)] = V1
    generalize Value.int IntKind.i64 (g 0) = v0 at H43 H44 H47 H48 H49 H50 Y0
    generalize Value.int IntKind.i64 (g 1) = v1 at H43 H44 H47 H48 H49 H50 Y0
    generalize Value.int IntKind.i64 (g 2) = v2 at H43 H44 H47 H48 H49 H50 Y0
    generalize Value.int IntKind.i64 (g 3) = v3 at H43 H44 H47 H48 H49 H50 Y0
    generalize Value.int IntKind.i64 (g 4) = v4 at H43 H44 H47 H48 H49 H50 Y0
    generalize Value.int IntKind.i64 (g 5) = v5 at H43 H44 H47 H48 H49 H50 Y0
    generalize Value.int IntKind.i64 (g 6) = v6 at H43 H44 H47 H48 H49 H50 Y0
    generalize Value.int IntKind.i64 (g 7) = v7 at H43 H44 H47 H48 H49 H50 Y0
    generalize Value.int IntKind.i64 (g 8) = v8 at H43 H44 H47 H48 H49 H50 Y0
    generalize Value.int IntKind.i64 (g 9) = v9 at H43 H44 H47 H48 H49 H50 Y0
    generalize Value.int IntKind.i64 (g 10) = v10 at H43 H44 H47 H48 H49 H50 Y0
    generalize Value.int IntKind.i64 (g 11) = v11 at H43 H44 H47 H48 H49 H50 Y0
    generalize Value.int IntKind.i64 (g 12) = v12 at H43 H44 H47 H48 H49 H50 Y0
    generalize Value.int IntKind.i64 (g 13) = v13 at H43 H44 H47 H48 H49 H50 Y0
    generalize Value.int IntKind.i64 (g 14) = v14 at H43 H44 H47 H48 H49 H50 Y0
    generalize Value.int IntKind.i64 (g 15) = v15 at H43 H44 H47 H48 H49 H50 Y0
    obtain ⟨w3, hw3⟩ : ∃ w3, w3 = wc := ⟨_, rfl⟩
    subst hw3
    have f0 := Y0.out
    have f1 := Y1.out
    go_wp2_with fail
    have ra0 : ∀ W : World, W.heap[w.heap.size]? = some (.cells #[v0, v1, v2, v3, v4, v5, v6, v7, v8, v9, v10, v11, v12, v13, v14, v15] 56 (0, 0)) → W.cell? ⟨w.heap.size, 0, none⟩ = some v0 := fun W h => cell_heap h rfl
    have ra1 : ∀ W : World, W.heap[w.heap.size]? = some (.cells #[v0, v1, v2, v3, v4, v5, v6, v7, v8, v9, v10, v11, v12, v13, v14, v15] 56 (0, 0)) → W.cell? ⟨w.heap.size, 1, none⟩ = some v1 := fun W h => cell_heap h rfl
    have ra2 : ∀ W : World, W.heap[w.heap.size]? = some (.cells #[v0, v1, v2, v3, v4, v5, v6, v7, v8, v9, v10, v11, v12, v13, v14, v15] 56 (0, 0)) → W.cell? ⟨w.heap.size, 2, none⟩ = some v2 := fun W h => cell_heap h rfl
    have ra3 : ∀ W : World, W.heap[w.heap.size]? = some (.cells #[v0, v1, v2, v3, v4, v5, v6, v7, v8, v9, v10, v11, v12, v13, v14, v15] 56 (0, 0)) → W.cell? ⟨w.heap.size, 3, none⟩ = some v3 := fun W h => cell_heap h rfl
    have ra4 : ∀ W : World, W.heap[w.heap.size]? = some (.cells #[v0, v1, v2, v3, v4, v5, v6, v7, v8, v9, v10, v11, v12, v13, v14, v15] 56 (0, 0)) → W.cell? ⟨w.heap.size, 4, none⟩ = some v4 := fun W h => cell_heap h rfl
    have ra5 : ∀ W : World, W.heap[w.heap.size]? = some (.cells #[v0, v1, v2, v3, v4, v5, v6, v7, v8, v9, v10, v11, v12, v13, v14, v15] 56 (0, 0)) → W.cell? ⟨w.heap.size, 5, none⟩ = some v5 := fun W h => cell_heap h rfl
    have ra6 : ∀ W : World, W.heap[w.heap.size]? = some (.cells #[v0, v1, v2, v3, v4, v5, v6, v7, v8, v9, v10, v11, v12, v13, v14, v15] 56 (0, 0)) → W.cell? ⟨w.heap.size, 6, none⟩ = some v6 := fun W h => cell_heap h rfl
    have ra7 : ∀ W : World, W.heap[w.heap.size]? = some (.cells #[v0, v1, v2, v3, v4, v5, v6, v7, v8, v9, v10, v11, v12, v13, v14, v15] 56 (0, 0)) → W.cell? ⟨w.heap.size, 7, none⟩ = some v7 := fun W h => cell_heap h rfl
    have ra8 : ∀ W : World, W.heap[w.heap.size]? = some (.cells #[v0, v1, v2, v3, v4, v5, v6, v7, v8, v9, v10, v11, v12, v13, v14, v15] 56 (0, 0)) → W.cell? ⟨w.heap.size, 8, none⟩ = some v8 := fun W h => cell_heap h rfl
    have ra9 : ∀ W : World, W.heap[w.heap.size]? = some (.cells #[v0, v1, v2, v3, v4, v5, v6, v7, v8, v9, v10, v11, v12, v13, v14, v15] 56 (0, 0)) → W.cell? ⟨w.heap.size, 9, none⟩ = some v9 := fun W h => cell_heap h rfl
    have ra10 : ∀ W : World, W.heap[w.heap.size]? = some (.cells #[v0, v1, v2, v3, v4, v5, v6, v7, v8, v9, v10, v11, v12, v13, v14, v15] 56 (0, 0)) → W.cell? ⟨w.heap.size, 10, none⟩ = some v10 := fun W h => cell_heap h rfl
    have ra11 : ∀ W : World, W.heap[w.heap.size]? = some (.cells #[v0, v1, v2, v3, v4, v5, v6, v7, v8, v9, v10, v11, v12, v13, v14, v15] 56 (0, 0)) → W.cell? ⟨w.heap.size, 11, none⟩ = some v11 := fun W h => cell_heap h rfl
    have ra12 : ∀ W : World, W.heap[w.heap.size]? = some (.cells #[v0, v1, v2, v3, v4, v5, v6, v7, v8, v9, v10, v11, v12, v13, v14, v15] 56 (0, 0)) → W.cell? ⟨w.heap.size, 12, none⟩ = some v12 := fun W h => cell_heap h rfl
    have ra13 : ∀ W : World, W.heap[w.heap.size]? = some (.cells #[v0, v1, v2, v3, v4, v5, v6, v7, v8, v9, v10, v11, v12, v13, v14, v15] 56 (0, 0)) → W.cell? ⟨w.heap.size, 13, none⟩ = some v13 := fun W h => cell_heap h rfl
    have ra14 : ∀ W : World, W.heap[w.heap.size]? = some (.cells #[v0, v1, v2, v3, v4, v5, v6, v7, v8, v9, v10, v11, v12, v13, v14, v15] 56 (0, 0)) → W.cell? ⟨w.heap.size, 14, none⟩ = some v14 := fun W h => cell_heap h rfl
    have ra15 : ∀ W : World, W.heap[w.heap.size]? = some (.cells #[v0, v1, v2, v3, v4, v5, v6, v7, v8, v9, v10, v11, v12, v13, v14, v15] 56 (0, 0)) → W.cell? ⟨w.heap.size, 15, none⟩ = some v15 := fun W h => cell_heap h rfl
    have rb0 : ∀ W : World, W.heap[w.heap.size + 1]? = some (.cells #[.int .i64 (s 0), .int .i64 (s 1), .int .i64 (s 2)] 58 (0, 0)) → W.cell? ⟨w.heap.size + 1, 0, none⟩ = some (.int .i64 (s 0)) := fun W h => cell_heap h rfl
    have rb1 : ∀ W : World, W.heap[w.heap.size + 1]? = some (.cells #[.int .i64 (s 0), .int .i64 (s 1), .int .i64 (s 2)] 58 (0, 0)) → W.cell? ⟨w.heap.size + 1, 1, none⟩ = some (.int .i64 (s 1)) := fun W h => cell_heap h rfl
    have rb2 : ∀ W : World, W.heap[w.heap.size + 1]? = some (.cells #[.int .i64 (s 0), .int .i64 (s 1), .int .i64 (s 2)] 58 (0, 0)) → W.cell? ⟨w.heap.size + 1, 2, none⟩ = some (.int .i64 (s 2)) := fun W h => cell_heap h rfl
    have hq : Below w3.heap.size w3 w3 := Below.refl _ _
    as_aux_lemma =>
    refine wp_region_held_drew (S := (fun w' => w'.heap[w.heap.size]? = some (.cells #[v0, v1, v2, v3, v4, v5, v6, v7, v8, v9, v10, v11, v12, v13, v14, v15] 56 (0, 0)) ∧ w'.heap[w.heap.size + 1]? = some (.cells #[.int .i64 (s 0), .int .i64 (s 1), .int .i64 (s 2)] 58 (0, 0)))) (by kernel_rfl) ?hS (fun hHeld => ?r)
    case hS => (go_split_ands; refine ⟨?_, ?_⟩ <;> (first | assumption | exact block_keep (by assumption) (lt_of_heap (by assumption)) (by assumption)))
    show wpAnyH Try.prog .any _ _ _ 53 #[false, false, false, false, false, false, false, false, false, false, false, false, false, false, false, false, false, false, false, false, false, false, false, false, false, false, false, false, false, false, false, false, false, false, false, false, false, false, false, false, false, false, false, false, false, false, false, false, false, false, false, false, false] _ _
    refine wpAnyH_take (i := 0) (oi := ?oi0) (v := ?v0) ?hi0 (by as_aux_lemma => kernel_rfl) (by as_aux_lemma => kernel_rfl) (by as_aux_lemma => kernel_rfl) ?hQ0 (Or.inl ⟨?hw0, ?hy0⟩) (by assumption) ?r0
    case hi0 => (simp only [List.getElem?_toArray, List.getElem?_cons_succ, List.getElem?_cons_zero]; rfl)
    case hQ0 => exact fun _ _ _ h => h
    case hw0 => rfl
    case hy0 => (intro w hSw; (try dsimp only at hSw); go_simp; (try with_reducible rfl))
    (try simp only [Act.put, List.setIfInBounds_toArray, List.set_cons_zero, List.set_cons_succ])
    refine wpAnyH_take (i := 1) (oi := ?oi1) (v := ?v1) ?hi1 (by as_aux_lemma => kernel_rfl) (by as_aux_lemma => kernel_rfl) (by as_aux_lemma => kernel_rfl) ?hQ1 (Or.inl ⟨?hw1, ?hy1⟩) (by assumption) ?r1
    case hi1 => (simp only [List.getElem?_toArray, List.getElem?_cons_succ, List.getElem?_cons_zero]; rfl)
    case hQ1 => exact fun _ _ _ h => h
    case hw1 => rfl
    case hy1 => (intro w hSw; (try dsimp only at hSw); go_simp; (try with_reducible rfl))
    (try simp only [Act.put, List.setIfInBounds_toArray, List.set_cons_zero, List.set_cons_succ])
    refine wpAnyH_take (i := 3) (oi := ?oi3) (v := ?v3) ?hi3 (by as_aux_lemma => kernel_rfl) (by as_aux_lemma => kernel_rfl) (by as_aux_lemma => kernel_rfl) ?hQ3 (Or.inl ⟨?hw3, ?hy3⟩) (by assumption) ?r3
    case hi3 => (simp only [List.getElem?_toArray, List.getElem?_cons_succ, List.getElem?_cons_zero]; rfl)
    case hQ3 => exact fun _ _ _ h => h
    case hw3 => rfl
    case hy3 => (intro w hSw; (try dsimp only at hSw); go_simp; (try with_reducible rfl))
    (try simp only [Act.put, List.setIfInBounds_toArray, List.set_cons_zero, List.set_cons_succ])
    refine wpAnyH_take (i := 4) (oi := ?oi4) (v := ?v4) ?hi4 (by as_aux_lemma => kernel_rfl) (by as_aux_lemma => kernel_rfl) (by as_aux_lemma => kernel_rfl) ?hQ4 (Or.inl ⟨?hw4, ?hy4⟩) (by assumption) ?r4
    case hi4 => (simp only [List.getElem?_toArray, List.getElem?_cons_succ, List.getElem?_cons_zero]; rfl)
    case hQ4 => exact fun _ _ _ h => h
    case hw4 => rfl
    case hy4 => (intro w hSw; (try dsimp only at hSw); go_simp; (try with_reducible rfl))
    (try simp only [Act.put, List.setIfInBounds_toArray, List.set_cons_zero, List.set_cons_succ])
    refine wpAnyH_ready (rs := [2]) (by as_aux_lemma => kernel_rfl) (by simp) ?_
    refine AllReadyH.cons (o := ?oi2) ?hi2 ?hc2 AllReadyH.nil
    case hi2 => (simp only [List.getElem?_toArray, List.getElem?_cons_succ, List.getElem?_cons_zero]; rfl)
    intro K hK
    go_simp
    go_at_call 43
    refine (H43.out _).mono ?_
    rintro e w4 ⟨rfl, hqn⟩
    first | replace hq := below_all hq hqn | replace hq := below_all hq (⟨hqn.os, hqn.tape, hqn.output, hqn.size, hqn.block⟩ : Below _ w3 w4)
    refine hK.out _ _ ?hS2 (fun hHeld => ?r2)
    case hS2 => (try dsimp only); (go_split_ands; refine ⟨?_, ?_⟩ <;> (first | assumption | exact block_keep (by assumption) (lt_of_heap (by assumption)) (by assumption)))
    clear hK K
    (try simp only [Act.put, List.setIfInBounds_toArray, List.set_cons_zero, List.set_cons_succ])
    as_aux_lemma =>
    refine wpAnyH_ready (rs := [5]) (by as_aux_lemma => kernel_rfl) (by simp) ?_
    refine AllReadyH.cons (o := ?oi5) ?hi5 ?hc5 AllReadyH.nil
    case hi5 => (simp only [List.getElem?_toArray, List.getElem?_cons_succ, List.getElem?_cons_zero]; rfl)
    intro K hK
    go_simp
    go_at_call 44
    refine (H44.out _).mono ?_
    rintro e w4 ⟨rfl, hqn⟩
    first | replace hq := below_all hq hqn | replace hq := below_all hq (⟨hqn.os, hqn.tape, hqn.output, hqn.size, hqn.block⟩ : Below _ w3 w4)
    refine hK.out _ _ ?hS5 (fun hHeld => ?r5)
    case hS5 => (try dsimp only); (go_split_ands; refine ⟨?_, ?_⟩ <;> (first | assumption | exact block_keep (by assumption) (lt_of_heap (by assumption)) (by assumption)))
    clear hK K
    (try simp only [Act.put, List.setIfInBounds_toArray, List.set_cons_zero, List.set_cons_succ])
    as_aux_lemma =>
    refine wpAnyH_ready (rs := [6]) (by as_aux_lemma => kernel_rfl) (by simp) ?_
    refine AllReadyH.cons (o := ?oi6) ?hi6 ?hc6 AllReadyH.nil
    case hi6 => (simp only [List.getElem?_toArray, List.getElem?_cons_succ, List.getElem?_cons_zero]; rfl)
    intro K hK
    go_simp
    go_at_call 41
    refine (own_any _ _ _ _).mono ?_
    rintro e w4 ⟨rfl, hqn⟩
    first | replace hq := below_all hq hqn | replace hq := below_all hq (⟨hqn.os, hqn.tape, hqn.output, hqn.size, hqn.block⟩ : Below _ w3 w4)
    refine hK.out _ _ ?hS6 (fun hHeld => ?r6)
    case hS6 => (try dsimp only); (go_split_ands; refine ⟨?_, ?_⟩ <;> (first | assumption | exact block_keep (by assumption) (lt_of_heap (by assumption)) (by assumption)))
    clear hK K
    (try simp only [Act.put, List.setIfInBounds_toArray, List.set_cons_zero, List.set_cons_succ])
    as_aux_lemma =>
    refine wpAnyH_take (i := 7) (oi := ?oi7) (v := ?v7) ?hi7 (by as_aux_lemma => kernel_rfl) (by as_aux_lemma => kernel_rfl) (by as_aux_lemma => kernel_rfl) ?hQ7 (Or.inl ⟨?hw7, ?hy7⟩) (by assumption) ?r7
    case hi7 => (simp only [List.getElem?_toArray, List.getElem?_cons_succ, List.getElem?_cons_zero]; rfl)
    case hQ7 => exact fun _ _ _ h => h
    case hw7 => rfl
    case hy7 => (intro w hSw; (try dsimp only at hSw); go_simp; (try with_reducible rfl))
    (try simp only [Act.put, List.setIfInBounds_toArray, List.set_cons_zero, List.set_cons_succ])
    refine wpAnyH_take (i := 8) (oi := ?oi8) (v := ?v8) ?hi8 (by as_aux_lemma => kernel_rfl) (by as_aux_lemma => kernel_rfl) (by as_aux_lemma => kernel_rfl) ?hQ8 (Or.inl ⟨?hw8, ?hy8⟩) (by assumption) ?r8
    case hi8 => (simp only [List.getElem?_toArray, List.getElem?_cons_succ, List.getElem?_cons_zero]; rfl)
    case hQ8 => exact fun _ _ _ h => h
    case hw8 => rfl
    case hy8 => (intro w hSw; (try dsimp only at hSw); go_simp; (try with_reducible rfl))
    (try simp only [Act.put, List.setIfInBounds_toArray, List.set_cons_zero, List.set_cons_succ])
    refine wpAnyH_take (i := 9) (oi := ?oi9) (v := ?v9) ?hi9 (by as_aux_lemma => kernel_rfl) (by as_aux_lemma => kernel_rfl) (by as_aux_lemma => kernel_rfl) ?hQ9 (Or.inl ⟨?hw9, ?hy9⟩) (by assumption) ?r9
    case hi9 => (simp only [List.getElem?_toArray, List.getElem?_cons_succ, List.getElem?_cons_zero]; rfl)
    case hQ9 => exact fun _ _ _ h => h
    case hw9 => rfl
    case hy9 => (intro w hSw; (try dsimp only at hSw); go_simp; (try with_reducible rfl))
    (try simp only [Act.put, List.setIfInBounds_toArray, List.set_cons_zero, List.set_cons_succ])
    refine wpAnyH_take (i := 10) (oi := ?oi10) (v := ?v10) ?hi10 (by as_aux_lemma => kernel_rfl) (by as_aux_lemma => kernel_rfl) (by as_aux_lemma => kernel_rfl) ?hQ10 (Or.inl ⟨?hw10, ?hy10⟩) (by assumption) ?r10
    case hi10 => (simp only [List.getElem?_toArray, List.getElem?_cons_succ, List.getElem?_cons_zero]; rfl)
    case hQ10 => exact fun _ _ _ h => h
    case hw10 => rfl
    case hy10 => (intro w hSw; (try dsimp only at hSw); go_simp; (try with_reducible rfl))
    (try simp only [Act.put, List.setIfInBounds_toArray, List.set_cons_zero, List.set_cons_succ])
    refine wpAnyH_take (i := 11) (oi := ?oi11) (v := ?v11) ?hi11 (by as_aux_lemma => kernel_rfl) (by as_aux_lemma => kernel_rfl) (by as_aux_lemma => kernel_rfl) ?hQ11 (Or.inl ⟨?hw11, ?hy11⟩) (by assumption) ?r11
    case hi11 => (simp only [List.getElem?_toArray, List.getElem?_cons_succ, List.getElem?_cons_zero]; rfl)
    case hQ11 => exact fun _ _ _ h => h
    case hw11 => rfl
    case hy11 => (intro w hSw; (try dsimp only at hSw); go_simp; (try with_reducible rfl))
    (try simp only [Act.put, List.setIfInBounds_toArray, List.set_cons_zero, List.set_cons_succ])
    refine wpAnyH_take (i := 12) (oi := ?oi12) (v := ?v12) ?hi12 (by as_aux_lemma => kernel_rfl) (by as_aux_lemma => kernel_rfl) (by as_aux_lemma => kernel_rfl) ?hQ12 (Or.inl ⟨?hw12, ?hy12⟩) (by assumption) ?r12
    case hi12 => (simp only [List.getElem?_toArray, List.getElem?_cons_succ, List.getElem?_cons_zero]; rfl)
    case hQ12 => exact fun _ _ _ h => h
    case hw12 => rfl
    case hy12 => (intro w hSw; (try dsimp only at hSw); go_simp; (try with_reducible rfl))
    (try simp only [Act.put, List.setIfInBounds_toArray, List.set_cons_zero, List.set_cons_succ])
    refine wpAnyH_take (i := 13) (oi := ?oi13) (v := ?v13) ?hi13 (by as_aux_lemma => kernel_rfl) (by as_aux_lemma => kernel_rfl) (by as_aux_lemma => kernel_rfl) ?hQ13 (Or.inl ⟨?hw13, ?hy13⟩) (by assumption) ?r13
    case hi13 => (simp only [List.getElem?_toArray, List.getElem?_cons_succ, List.getElem?_cons_zero]; rfl)
    case hQ13 => exact fun _ _ _ h => h
    case hw13 => rfl
    case hy13 => (intro w hSw; (try dsimp only at hSw); go_simp; (try with_reducible rfl))
    (try simp only [Act.put, List.setIfInBounds_toArray, List.set_cons_zero, List.set_cons_succ])
    refine wpAnyH_take (i := 14) (oi := ?oi14) (v := ?v14) ?hi14 (by as_aux_lemma => kernel_rfl) (by as_aux_lemma => kernel_rfl) (by as_aux_lemma => kernel_rfl) ?hQ14 (Or.inl ⟨?hw14, ?hy14⟩) (by assumption) ?r14
    case hi14 => (simp only [List.getElem?_toArray, List.getElem?_cons_succ, List.getElem?_cons_zero]; rfl)
    case hQ14 => exact fun _ _ _ h => h
    case hw14 => rfl
    case hy14 => (intro w hSw; (try dsimp only at hSw); go_simp; (try with_reducible rfl))
    (try simp only [Act.put, List.setIfInBounds_toArray, List.set_cons_zero, List.set_cons_succ])
    refine wpAnyH_take (i := 15) (oi := ?oi15) (v := ?v15) ?hi15 (by as_aux_lemma => kernel_rfl) (by as_aux_lemma => kernel_rfl) (by as_aux_lemma => kernel_rfl) ?hQ15 (Or.inl ⟨?hw15, ?hy15⟩) (by assumption) ?r15
    case hi15 => (simp only [List.getElem?_toArray, List.getElem?_cons_succ, List.getElem?_cons_zero]; rfl)
    case hQ15 => exact fun _ _ _ h => h
    case hw15 => rfl
    case hy15 => (intro w hSw; (try dsimp only at hSw); go_simp; (try with_reducible rfl))
    (try simp only [Act.put, List.setIfInBounds_toArray, List.set_cons_zero, List.set_cons_succ])
    refine wpAnyH_take (i := 16) (oi := ?oi16) (v := ?v16) ?hi16 (by as_aux_lemma => kernel_rfl) (by as_aux_lemma => kernel_rfl) (by as_aux_lemma => kernel_rfl) ?hQ16 (Or.inl ⟨?hw16, ?hy16⟩) (by assumption) ?r16
    case hi16 => (simp only [List.getElem?_toArray, List.getElem?_cons_succ, List.getElem?_cons_zero]; rfl)
    case hQ16 => exact fun _ _ _ h => h
    case hw16 => rfl
    case hy16 => (intro w hSw; (try dsimp only at hSw); go_simp; (try with_reducible rfl))
    (try simp only [Act.put, List.setIfInBounds_toArray, List.set_cons_zero, List.set_cons_succ])
    refine wpAnyH_take (i := 17) (oi := ?oi17) (v := ?v17) ?hi17 (by as_aux_lemma => kernel_rfl) (by as_aux_lemma => kernel_rfl) (by as_aux_lemma => kernel_rfl) ?hQ17 (Or.inl ⟨?hw17, ?hy17⟩) (by assumption) ?r17
    case hi17 => (simp only [List.getElem?_toArray, List.getElem?_cons_succ, List.getElem?_cons_zero]; rfl)
    case hQ17 => exact fun _ _ _ h => h
    case hw17 => rfl
    case hy17 => (intro w hSw; (try dsimp only at hSw); go_simp; (try with_reducible rfl))
    (try simp only [Act.put, List.setIfInBounds_toArray, List.set_cons_zero, List.set_cons_succ])
    refine wpAnyH_take (i := 18) (oi := ?oi18) (v := ?v18) ?hi18 (by as_aux_lemma => kernel_rfl) (by as_aux_lemma => kernel_rfl) (by as_aux_lemma => kernel_rfl) ?hQ18 (Or.inl ⟨?hw18, ?hy18⟩) (by assumption) ?r18
    case hi18 => (simp only [List.getElem?_toArray, List.getElem?_cons_succ, List.getElem?_cons_zero]; rfl)
    case hQ18 => exact fun _ _ _ h => h
    case hw18 => rfl
    case hy18 => (intro w hSw; (try dsimp only at hSw); go_simp; (try with_reducible rfl))
    (try simp only [Act.put, List.setIfInBounds_toArray, List.set_cons_zero, List.set_cons_succ])
    refine wpAnyH_take (i := 19) (oi := ?oi19) (v := ?v19) ?hi19 (by as_aux_lemma => kernel_rfl) (by as_aux_lemma => kernel_rfl) (by as_aux_lemma => kernel_rfl) ?hQ19 (Or.inl ⟨?hw19, ?hy19⟩) (by assumption) ?r19
    case hi19 => (simp only [List.getElem?_toArray, List.getElem?_cons_succ, List.getElem?_cons_zero]; rfl)
    case hQ19 => exact fun _ _ _ h => h
    case hw19 => rfl
    case hy19 => (intro w hSw; (try dsimp only at hSw); go_simp; (try with_reducible rfl))
    (try simp only [Act.put, List.setIfInBounds_toArray, List.set_cons_zero, List.set_cons_succ])
    refine wpAnyH_take (i := 21) (oi := ?oi21) (v := ?v21) ?hi21 (by as_aux_lemma => kernel_rfl) (by as_aux_lemma => kernel_rfl) (by as_aux_lemma => kernel_rfl) ?hQ21 (Or.inl ⟨?hw21, ?hy21⟩) (by assumption) ?r21
    case hi21 => (simp only [List.getElem?_toArray, List.getElem?_cons_succ, List.getElem?_cons_zero]; rfl)
    case hQ21 => exact fun _ _ _ h => h
    case hw21 => rfl
    case hy21 => (intro w hSw; (try dsimp only at hSw); go_simp; (try with_reducible rfl))
    (try simp only [Act.put, List.setIfInBounds_toArray, List.set_cons_zero, List.set_cons_succ])
    refine wpAnyH_take (i := 23) (oi := ?oi23) (v := ?v23) ?hi23 (by as_aux_lemma => kernel_rfl) (by as_aux_lemma => kernel_rfl) (by as_aux_lemma => kernel_rfl) ?hQ23 (Or.inl ⟨?hw23, ?hy23⟩) (by assumption) ?r23
    case hi23 => (simp only [List.getElem?_toArray, List.getElem?_cons_succ, List.getElem?_cons_zero]; rfl)
    case hQ23 => exact fun _ _ _ h => h
    case hw23 => rfl
    case hy23 => (intro w hSw; (try dsimp only at hSw); go_simp; (try with_reducible rfl))
    (try simp only [Act.put, List.setIfInBounds_toArray, List.set_cons_zero, List.set_cons_succ])
    refine wpAnyH_take (i := 24) (oi := ?oi24) (v := ?v24) ?hi24 (by as_aux_lemma => kernel_rfl) (by as_aux_lemma => kernel_rfl) (by as_aux_lemma => kernel_rfl) ?hQ24 (Or.inl ⟨?hw24, ?hy24⟩) (by assumption) ?r24
    case hi24 => (simp only [List.getElem?_toArray, List.getElem?_cons_succ, List.getElem?_cons_zero]; rfl)
    case hQ24 => exact fun _ _ _ h => h
    case hw24 => rfl
    case hy24 => (intro w hSw; (try dsimp only at hSw); go_simp; (try with_reducible rfl))
    (try simp only [Act.put, List.setIfInBounds_toArray, List.set_cons_zero, List.set_cons_succ])
    refine wpAnyH_ready (rs := [20]) (by as_aux_lemma => kernel_rfl) (by simp) ?_
    refine AllReadyH.cons (o := ?oi20) ?hi20 ?hc20 AllReadyH.nil
    case hi20 => (simp only [List.getElem?_toArray, List.getElem?_cons_succ, List.getElem?_cons_zero]; rfl)
    intro K hK
    go_simp
    go_at_call 41
    refine (own_any _ _ _ _).mono ?_
    rintro e w4 ⟨rfl, hqn⟩
    first | replace hq := below_all hq hqn | replace hq := below_all hq (⟨hqn.os, hqn.tape, hqn.output, hqn.size, hqn.block⟩ : Below _ w3 w4)
    refine hK.out _ _ ?hS20 (fun hHeld => ?r20)
    case hS20 => (try dsimp only); (go_split_ands; refine ⟨?_, ?_⟩ <;> (first | assumption | exact block_keep (by assumption) (lt_of_heap (by assumption)) (by assumption)))
    clear hK K
    (try simp only [Act.put, List.setIfInBounds_toArray, List.set_cons_zero, List.set_cons_succ])
    as_aux_lemma =>
    refine wpAnyH_ready (rs := [22]) (by as_aux_lemma => kernel_rfl) (by simp) ?_
    refine AllReadyH.cons (o := ?oi22) ?hi22 ?hc22 AllReadyH.nil
    case hi22 => (simp only [List.getElem?_toArray, List.getElem?_cons_succ, List.getElem?_cons_zero]; rfl)
    intro K hK
    go_simp
    go_at_call 45
    refine (H45.out _).mono ?_
    rintro e w4 ⟨rfl, hqn⟩
    first | replace hq := below_all hq hqn | replace hq := below_all hq (⟨hqn.os, hqn.tape, hqn.output, hqn.size, hqn.block⟩ : Below _ w3 w4)
    refine hK.out _ _ ?hS22 (fun hHeld => ?r22)
    case hS22 => (try dsimp only); (go_split_ands; refine ⟨?_, ?_⟩ <;> (first | assumption | exact block_keep (by assumption) (lt_of_heap (by assumption)) (by assumption)))
    clear hK K
    (try simp only [Act.put, List.setIfInBounds_toArray, List.set_cons_zero, List.set_cons_succ])
    as_aux_lemma =>
    refine wpAnyH_ready (rs := [25]) (by as_aux_lemma => kernel_rfl) (by simp) ?_
    refine AllReadyH.cons (o := ?oi25) ?hi25 ?hc25 AllReadyH.nil
    case hi25 => (simp only [List.getElem?_toArray, List.getElem?_cons_succ, List.getElem?_cons_zero]; rfl)
    intro K hK
    go_simp
    go_at_call 46
    refine (H46.out _).mono ?_
    rintro e w4 ⟨rfl, hqn⟩
    first | replace hq := below_all hq hqn | replace hq := below_all hq (⟨hqn.os, hqn.tape, hqn.output, hqn.size, hqn.block⟩ : Below _ w3 w4)
    refine hK.out _ _ ?hS25 (fun hHeld => ?r25)
    case hS25 => (try dsimp only); (go_split_ands; refine ⟨?_, ?_⟩ <;> (first | assumption | exact block_keep (by assumption) (lt_of_heap (by assumption)) (by assumption)))
    clear hK K
    (try simp only [Act.put, List.setIfInBounds_toArray, List.set_cons_zero, List.set_cons_succ])
    as_aux_lemma =>
    refine wpAnyH_ready (rs := [26]) (by as_aux_lemma => kernel_rfl) (by simp) ?_
    refine AllReadyH.cons (o := ?oi26) ?hi26 ?hc26 AllReadyH.nil
    case hi26 => (simp only [List.getElem?_toArray, List.getElem?_cons_succ, List.getElem?_cons_zero]; rfl)
    intro K hK
    go_simp
    go_at_call 41
    refine (own_any _ _ _ _).mono ?_
    rintro e w4 ⟨rfl, hqn⟩
    first | replace hq := below_all hq hqn | replace hq := below_all hq (⟨hqn.os, hqn.tape, hqn.output, hqn.size, hqn.block⟩ : Below _ w3 w4)
    refine hK.out _ _ ?hS26 (fun hHeld => ?r26)
    case hS26 => (try dsimp only); (go_split_ands; refine ⟨?_, ?_⟩ <;> (first | assumption | exact block_keep (by assumption) (lt_of_heap (by assumption)) (by assumption)))
    clear hK K
    (try simp only [Act.put, List.setIfInBounds_toArray, List.set_cons_zero, List.set_cons_succ])
    as_aux_lemma =>
    refine wpAnyH_take (i := 27) (oi := ?oi27) (v := ?v27) ?hi27 (by as_aux_lemma => kernel_rfl) (by as_aux_lemma => kernel_rfl) (by as_aux_lemma => kernel_rfl) ?hQ27 (Or.inl ⟨?hw27, ?hy27⟩) (by assumption) ?r27
    case hi27 => (simp only [List.getElem?_toArray, List.getElem?_cons_succ, List.getElem?_cons_zero]; rfl)
    case hQ27 => exact fun _ _ _ h => h
    case hw27 => rfl
    case hy27 => (intro w hSw; (try dsimp only at hSw); go_simp; (try with_reducible rfl))
    (try simp only [Act.put, List.setIfInBounds_toArray, List.set_cons_zero, List.set_cons_succ])
    refine wpAnyH_take (i := 28) (oi := ?oi28) (v := ?v28) ?hi28 (by as_aux_lemma => kernel_rfl) (by as_aux_lemma => kernel_rfl) (by as_aux_lemma => kernel_rfl) ?hQ28 (Or.inl ⟨?hw28, ?hy28⟩) (by assumption) ?r28
    case hi28 => (simp only [List.getElem?_toArray, List.getElem?_cons_succ, List.getElem?_cons_zero]; rfl)
    case hQ28 => exact fun _ _ _ h => h
    case hw28 => rfl
    case hy28 => (intro w hSw; (try dsimp only at hSw); go_simp; (try with_reducible rfl))
    (try simp only [Act.put, List.setIfInBounds_toArray, List.set_cons_zero, List.set_cons_succ])
    refine wpAnyH_take (i := 29) (oi := ?oi29) (v := ?v29) ?hi29 (by as_aux_lemma => kernel_rfl) (by as_aux_lemma => kernel_rfl) (by as_aux_lemma => kernel_rfl) ?hQ29 (Or.inl ⟨?hw29, ?hy29⟩) (by assumption) ?r29
    case hi29 => (simp only [List.getElem?_toArray, List.getElem?_cons_succ, List.getElem?_cons_zero]; rfl)
    case hQ29 => exact fun _ _ _ h => h
    case hw29 => rfl
    case hy29 => (intro w hSw; (try dsimp only at hSw); go_simp; (try with_reducible rfl))
    (try simp only [Act.put, List.setIfInBounds_toArray, List.set_cons_zero, List.set_cons_succ])
    refine wpAnyH_take (i := 30) (oi := ?oi30) (v := ?v30) ?hi30 (by as_aux_lemma => kernel_rfl) (by as_aux_lemma => kernel_rfl) (by as_aux_lemma => kernel_rfl) ?hQ30 (Or.inl ⟨?hw30, ?hy30⟩) (by assumption) ?r30
    case hi30 => (simp only [List.getElem?_toArray, List.getElem?_cons_succ, List.getElem?_cons_zero]; rfl)
    case hQ30 => exact fun _ _ _ h => h
    case hw30 => rfl
    case hy30 => (intro w hSw; (try dsimp only at hSw); go_simp; (try with_reducible rfl))
    (try simp only [Act.put, List.setIfInBounds_toArray, List.set_cons_zero, List.set_cons_succ])
    refine wpAnyH_take (i := 31) (oi := ?oi31) (v := ?v31) ?hi31 (by as_aux_lemma => kernel_rfl) (by as_aux_lemma => kernel_rfl) (by as_aux_lemma => kernel_rfl) ?hQ31 (Or.inl ⟨?hw31, ?hy31⟩) (by assumption) ?r31
    case hi31 => (simp only [List.getElem?_toArray, List.getElem?_cons_succ, List.getElem?_cons_zero]; rfl)
    case hQ31 => exact fun _ _ _ h => h
    case hw31 => rfl
    case hy31 => (intro w hSw; (try dsimp only at hSw); go_simp; (try with_reducible rfl))
    (try simp only [Act.put, List.setIfInBounds_toArray, List.set_cons_zero, List.set_cons_succ])
    refine wpAnyH_take (i := 34) (oi := ?oi34) (v := ?v34) ?hi34 (by as_aux_lemma => kernel_rfl) (by as_aux_lemma => kernel_rfl) (by as_aux_lemma => kernel_rfl) ?hQ34 (Or.inl ⟨?hw34, ?hy34⟩) (by assumption) ?r34
    case hi34 => (simp only [List.getElem?_toArray, List.getElem?_cons_succ, List.getElem?_cons_zero]; rfl)
    case hQ34 => exact fun _ _ _ h => h
    case hw34 => rfl
    case hy34 => (intro w hSw; (try dsimp only at hSw); go_simp; (try with_reducible rfl))
    (try simp only [Act.put, List.setIfInBounds_toArray, List.set_cons_zero, List.set_cons_succ])
    refine wpAnyH_take (i := 35) (oi := ?oi35) (v := ?v35) ?hi35 (by as_aux_lemma => kernel_rfl) (by as_aux_lemma => kernel_rfl) (by as_aux_lemma => kernel_rfl) ?hQ35 (Or.inl ⟨?hw35, ?hy35⟩) (by assumption) ?r35
    case hi35 => (simp only [List.getElem?_toArray, List.getElem?_cons_succ, List.getElem?_cons_zero]; rfl)
    case hQ35 => exact fun _ _ _ h => h
    case hw35 => rfl
    case hy35 => (intro w hSw; (try dsimp only at hSw); go_simp; (try with_reducible rfl))
    (try simp only [Act.put, List.setIfInBounds_toArray, List.set_cons_zero, List.set_cons_succ])
    refine wpAnyH_ready (rs := [32]) (by as_aux_lemma => kernel_rfl) (by simp) ?_
    refine AllReadyH.cons (o := ?oi32) ?hi32 ?hc32 AllReadyH.nil
    case hi32 => (simp only [List.getElem?_toArray, List.getElem?_cons_succ, List.getElem?_cons_zero]; rfl)
    intro K hK
    go_simp
    go_at_call 41
    refine (own_any _ _ _ _).mono ?_
    rintro e w4 ⟨rfl, hqn⟩
    first | replace hq := below_all hq hqn | replace hq := below_all hq (⟨hqn.os, hqn.tape, hqn.output, hqn.size, hqn.block⟩ : Below _ w3 w4)
    refine hK.out _ _ ?hS32 (fun hHeld => ?r32)
    case hS32 => (try dsimp only); (go_split_ands; refine ⟨?_, ?_⟩ <;> (first | assumption | exact block_keep (by assumption) (lt_of_heap (by assumption)) (by assumption)))
    clear hK K
    (try simp only [Act.put, List.setIfInBounds_toArray, List.set_cons_zero, List.set_cons_succ])
    as_aux_lemma =>
    refine wpAnyH_ready (rs := [33]) (by as_aux_lemma => kernel_rfl) (by simp) ?_
    refine AllReadyH.cons (o := ?oi33) ?hi33 ?hc33 AllReadyH.nil
    case hi33 => (simp only [List.getElem?_toArray, List.getElem?_cons_succ, List.getElem?_cons_zero]; rfl)
    intro K hK
    go_simp
    go_at_call 47
    refine (H47.out _).mono ?_
    rintro e w4 ⟨rfl, hqn⟩
    first | replace hq := below_all hq hqn | replace hq := below_all hq (⟨hqn.os, hqn.tape, hqn.output, hqn.size, hqn.block⟩ : Below _ w3 w4)
    refine hK.out _ _ ?hS33 (fun hHeld => ?r33)
    case hS33 => (try dsimp only); (go_split_ands; refine ⟨?_, ?_⟩ <;> (first | assumption | exact block_keep (by assumption) (lt_of_heap (by assumption)) (by assumption)))
    clear hK K
    (try simp only [Act.put, List.setIfInBounds_toArray, List.set_cons_zero, List.set_cons_succ])
    as_aux_lemma =>
    refine wpAnyH_ready (rs := [36]) (by as_aux_lemma => kernel_rfl) (by simp) ?_
    refine AllReadyH.cons (o := ?oi36) ?hi36 ?hc36 AllReadyH.nil
    case hi36 => (simp only [List.getElem?_toArray, List.getElem?_cons_succ, List.getElem?_cons_zero]; rfl)
    intro K hK
    go_simp
    go_at_call 48
    refine (H48.out _).mono ?_
    rintro e w4 ⟨rfl, hqn⟩
    first | replace hq := below_all hq hqn | replace hq := below_all hq (⟨hqn.os, hqn.tape, hqn.output, hqn.size, hqn.block⟩ : Below _ w3 w4)
    refine hK.out _ _ ?hS36 (fun hHeld => ?r36)
    case hS36 => (try dsimp only); (go_split_ands; refine ⟨?_, ?_⟩ <;> (first | assumption | exact block_keep (by assumption) (lt_of_heap (by assumption)) (by assumption)))
    clear hK K
    (try simp only [Act.put, List.setIfInBounds_toArray, List.set_cons_zero, List.set_cons_succ])
    as_aux_lemma =>
    refine wpAnyH_ready (rs := [37]) (by as_aux_lemma => kernel_rfl) (by simp) ?_
    refine AllReadyH.cons (o := ?oi37) ?hi37 ?hc37 AllReadyH.nil
    case hi37 => (simp only [List.getElem?_toArray, List.getElem?_cons_succ, List.getElem?_cons_zero]; rfl)
    intro K hK
    go_simp
    go_at_call 41
    refine (own_any _ _ _ _).mono ?_
    rintro e w4 ⟨rfl, hqn⟩
    first | replace hq := below_all hq hqn | replace hq := below_all hq (⟨hqn.os, hqn.tape, hqn.output, hqn.size, hqn.block⟩ : Below _ w3 w4)
    refine hK.out _ _ ?hS37 (fun hHeld => ?r37)
    case hS37 => (try dsimp only); (go_split_ands; refine ⟨?_, ?_⟩ <;> (first | assumption | exact block_keep (by assumption) (lt_of_heap (by assumption)) (by assumption)))
    clear hK K
    (try simp only [Act.put, List.setIfInBounds_toArray, List.set_cons_zero, List.set_cons_succ])
    as_aux_lemma =>
    refine wpAnyH_take (i := 38) (oi := ?oi38) (v := ?v38) ?hi38 (by as_aux_lemma => kernel_rfl) (by as_aux_lemma => kernel_rfl) (by as_aux_lemma => kernel_rfl) ?hQ38 (Or.inl ⟨?hw38, ?hy38⟩) (by assumption) ?r38
    case hi38 => (simp only [List.getElem?_toArray, List.getElem?_cons_succ, List.getElem?_cons_zero]; rfl)
    case hQ38 => exact fun _ _ _ h => h
    case hw38 => rfl
    case hy38 => (intro w hSw; (try dsimp only at hSw); go_simp; (try with_reducible rfl))
    (try simp only [Act.put, List.setIfInBounds_toArray, List.set_cons_zero, List.set_cons_succ])
    refine wpAnyH_take (i := 39) (oi := ?oi39) (v := ?v39) ?hi39 (by as_aux_lemma => kernel_rfl) (by as_aux_lemma => kernel_rfl) (by as_aux_lemma => kernel_rfl) ?hQ39 (Or.inl ⟨?hw39, ?hy39⟩) (by assumption) ?r39
    case hi39 => (simp only [List.getElem?_toArray, List.getElem?_cons_succ, List.getElem?_cons_zero]; rfl)
    case hQ39 => exact fun _ _ _ h => h
    case hw39 => rfl
    case hy39 => (intro w hSw; (try dsimp only at hSw); go_simp; (try with_reducible rfl))
    (try simp only [Act.put, List.setIfInBounds_toArray, List.set_cons_zero, List.set_cons_succ])
    refine wpAnyH_take (i := 40) (oi := ?oi40) (v := ?v40) ?hi40 (by as_aux_lemma => kernel_rfl) (by as_aux_lemma => kernel_rfl) (by as_aux_lemma => kernel_rfl) ?hQ40 (Or.inl ⟨?hw40, ?hy40⟩) (by assumption) ?r40
    case hi40 => (simp only [List.getElem?_toArray, List.getElem?_cons_succ, List.getElem?_cons_zero]; rfl)
    case hQ40 => exact fun _ _ _ h => h
    case hw40 => rfl
    case hy40 => (intro w hSw; (try dsimp only at hSw); go_simp; (try with_reducible rfl))
    (try simp only [Act.put, List.setIfInBounds_toArray, List.set_cons_zero, List.set_cons_succ])
    refine wpAnyH_take (i := 41) (oi := ?oi41) (v := ?v41) ?hi41 (by as_aux_lemma => kernel_rfl) (by as_aux_lemma => kernel_rfl) (by as_aux_lemma => kernel_rfl) ?hQ41 (Or.inl ⟨?hw41, ?hy41⟩) (by assumption) ?r41
    case hi41 => (simp only [List.getElem?_toArray, List.getElem?_cons_succ, List.getElem?_cons_zero]; rfl)
    case hQ41 => exact fun _ _ _ h => h
    case hw41 => rfl
    case hy41 => (intro w hSw; (try dsimp only at hSw); go_simp; (try with_reducible rfl))
    (try simp only [Act.put, List.setIfInBounds_toArray, List.set_cons_zero, List.set_cons_succ])
    refine wpAnyH_take (i := 42) (oi := ?oi42) (v := ?v42) ?hi42 (by as_aux_lemma => kernel_rfl) (by as_aux_lemma => kernel_rfl) (by as_aux_lemma => kernel_rfl) ?hQ42 (Or.inl ⟨?hw42, ?hy42⟩) (by assumption) ?r42
    case hi42 => (simp only [List.getElem?_toArray, List.getElem?_cons_succ, List.getElem?_cons_zero]; rfl)
    case hQ42 => exact fun _ _ _ h => h
    case hw42 => rfl
    case hy42 => (intro w hSw; (try dsimp only at hSw); go_simp; (try with_reducible rfl))
    (try simp only [Act.put, List.setIfInBounds_toArray, List.set_cons_zero, List.set_cons_succ])
    refine wpAnyH_take (i := 44) (oi := ?oi44) (v := ?v44) ?hi44 (by as_aux_lemma => kernel_rfl) (by as_aux_lemma => kernel_rfl) (by as_aux_lemma => kernel_rfl) ?hQ44 (Or.inl ⟨?hw44, ?hy44⟩) (by assumption) ?r44
    case hi44 => (simp only [List.getElem?_toArray, List.getElem?_cons_succ, List.getElem?_cons_zero]; rfl)
    case hQ44 => exact fun _ _ _ h => h
    case hw44 => rfl
    case hy44 => (intro w hSw; (try dsimp only at hSw); go_simp; (try with_reducible rfl))
    (try simp only [Act.put, List.setIfInBounds_toArray, List.set_cons_zero, List.set_cons_succ])
    refine wpAnyH_take (i := 45) (oi := ?oi45) (v := ?v45) ?hi45 (by as_aux_lemma => kernel_rfl) (by as_aux_lemma => kernel_rfl) (by as_aux_lemma => kernel_rfl) ?hQ45 (Or.inl ⟨?hw45, ?hy45⟩) (by assumption) ?r45
    case hi45 => (simp only [List.getElem?_toArray, List.getElem?_cons_succ, List.getElem?_cons_zero]; rfl)
    case hQ45 => exact fun _ _ _ h => h
    case hw45 => rfl
    case hy45 => (intro w hSw; (try dsimp only at hSw); go_simp; (try with_reducible rfl))
    (try simp only [Act.put, List.setIfInBounds_toArray, List.set_cons_zero, List.set_cons_succ])
    refine wpAnyH_ready (rs := [43]) (by as_aux_lemma => kernel_rfl) (by simp) ?_
    refine AllReadyH.cons (o := ?oi43) ?hi43 ?hc43 AllReadyH.nil
    case hi43 => (simp only [List.getElem?_toArray, List.getElem?_cons_succ, List.getElem?_cons_zero]; rfl)
    intro K hK
    go_simp
    go_at_call 49
    refine (H49.out _).mono ?_
    rintro e w4 ⟨rfl, hqn⟩
    first | replace hq := below_all hq hqn | replace hq := below_all hq (⟨hqn.os, hqn.tape, hqn.output, hqn.size, hqn.block⟩ : Below _ w3 w4)
    refine hK.out _ _ ?hS43 (fun hHeld => ?r43)
    case hS43 => (try dsimp only); (go_split_ands; refine ⟨?_, ?_⟩ <;> (first | assumption | exact block_keep (by assumption) (lt_of_heap (by assumption)) (by assumption)))
    clear hK K
    (try simp only [Act.put, List.setIfInBounds_toArray, List.set_cons_zero, List.set_cons_succ])
    as_aux_lemma =>
    refine wpAnyH_ready (rs := [46]) (by as_aux_lemma => kernel_rfl) (by simp) ?_
    refine AllReadyH.cons (o := ?oi46) ?hi46 ?hc46 AllReadyH.nil
    case hi46 => (simp only [List.getElem?_toArray, List.getElem?_cons_succ, List.getElem?_cons_zero]; rfl)
    intro K hK
    go_simp
    go_at_call 50
    refine (H50.out _).mono ?_
    rintro e w4 ⟨rfl, hqn⟩
    first | replace hq := below_all hq hqn | replace hq := below_all hq (⟨hqn.os, hqn.tape, hqn.output, hqn.size, hqn.block⟩ : Below _ w3 w4)
    refine hK.out _ _ ?hS46 (fun hHeld => ?r46)
    case hS46 => (try dsimp only); (go_split_ands; refine ⟨?_, ?_⟩ <;> (first | assumption | exact block_keep (by assumption) (lt_of_heap (by assumption)) (by assumption)))
    clear hK K
    (try simp only [Act.put, List.setIfInBounds_toArray, List.set_cons_zero, List.set_cons_succ])
    as_aux_lemma =>
    refine wpAnyH_take (i := 47) (oi := ?oi47) (v := ?v47) ?hi47 (by as_aux_lemma => kernel_rfl) (by as_aux_lemma => kernel_rfl) (by as_aux_lemma => kernel_rfl) ?hQ47 (Or.inl ⟨?hw47, ?hy47⟩) (by assumption) ?r47
    case hi47 => (simp only [List.getElem?_toArray, List.getElem?_cons_succ, List.getElem?_cons_zero]; rfl)
    case hQ47 => exact fun _ _ _ h => h
    case hw47 => rfl
    case hy47 => (intro w hSw; (try dsimp only at hSw); go_simp; (try with_reducible rfl))
    (try simp only [Act.put, List.setIfInBounds_toArray, List.set_cons_zero, List.set_cons_succ])
    refine wpAnyH_take (i := 48) (oi := ?oi48) (v := ?v48) ?hi48 (by as_aux_lemma => kernel_rfl) (by as_aux_lemma => kernel_rfl) (by as_aux_lemma => kernel_rfl) ?hQ48 (Or.inl ⟨?hw48, ?hy48⟩) (by assumption) ?r48
    case hi48 => (simp only [List.getElem?_toArray, List.getElem?_cons_succ, List.getElem?_cons_zero]; rfl)
    case hQ48 => exact fun _ _ _ h => h
    case hw48 => rfl
    case hy48 => (intro w hSw; (try dsimp only at hSw); go_simp; (try with_reducible rfl))
    (try simp only [Act.put, List.setIfInBounds_toArray, List.set_cons_zero, List.set_cons_succ])
    refine wpAnyH_take (i := 49) (oi := ?oi49) (v := ?v49) ?hi49 (by as_aux_lemma => kernel_rfl) (by as_aux_lemma => kernel_rfl) (by as_aux_lemma => kernel_rfl) ?hQ49 (Or.inl ⟨?hw49, ?hy49⟩) (by assumption) ?r49
    case hi49 => (simp only [List.getElem?_toArray, List.getElem?_cons_succ, List.getElem?_cons_zero]; rfl)
    case hQ49 => exact fun _ _ _ h => h
    case hw49 => rfl
    case hy49 => (intro w hSw; (try dsimp only at hSw); go_simp; (try with_reducible rfl))
    (try simp only [Act.put, List.setIfInBounds_toArray, List.set_cons_zero, List.set_cons_succ])
    refine wpAnyH_ready (rs := [50]) (by as_aux_lemma => kernel_rfl) (by simp) ?_
    refine AllReadyH.cons (o := ?oi50) ?hi50 ?hc50 AllReadyH.nil
    case hi50 => (simp only [List.getElem?_toArray, List.getElem?_cons_succ, List.getElem?_cons_zero]; rfl)
    intro K hK
    go_simp
    go_at_call 39
    refine (alive22 _).mono ?_
    rintro e w4 ⟨rfl, hqn⟩
    first | replace hq := below_all hq hqn | replace hq := below_all hq (⟨hqn.os, hqn.tape, hqn.output, hqn.size, hqn.block⟩ : Below _ w3 w4)
    refine hK.out _ _ ?hS50 (fun hHeld => ?r50)
    case hS50 => (try dsimp only); (go_split_ands; refine ⟨?_, ?_⟩ <;> (first | assumption | exact block_keep (by assumption) (lt_of_heap (by assumption)) (by assumption)))
    clear hK K
    (try simp only [Act.put, List.setIfInBounds_toArray, List.set_cons_zero, List.set_cons_succ])
    as_aux_lemma =>
    refine wpAnyH_take (i := 51) (oi := ?oi51) (v := ?v51) ?hi51 (by as_aux_lemma => kernel_rfl) (by as_aux_lemma => kernel_rfl) (by as_aux_lemma => kernel_rfl) ?hQ51 (Or.inl ⟨?hw51, ?hy51⟩) (by assumption) ?r51
    case hi51 => (simp only [List.getElem?_toArray, List.getElem?_cons_succ, List.getElem?_cons_zero]; rfl)
    case hQ51 => exact fun _ _ _ h => h
    case hw51 => rfl
    case hy51 => (intro w hSw; (try dsimp only at hSw); go_simp; (try with_reducible rfl))
    (try simp only [Act.put, List.setIfInBounds_toArray, List.set_cons_zero, List.set_cons_succ])
    refine wpAnyH_take (i := 52) (oi := ?oi52) (v := ?v52) ?hi52 (by as_aux_lemma => kernel_rfl) (by as_aux_lemma => kernel_rfl) (by as_aux_lemma => kernel_rfl) ?hQ52 (Or.inl ⟨?hw52, ?hy52⟩) (by assumption) ?r52
    case hi52 => (simp only [List.getElem?_toArray, List.getElem?_cons_succ, List.getElem?_cons_zero]; rfl)
    case hQ52 => exact fun _ _ _ h => h
    case hw52 => rfl
    case hy52 => (intro w hSw; (try dsimp only at hSw); go_simp; (try with_reducible rfl))
    (try simp only [Act.put, List.setIfInBounds_toArray, List.set_cons_zero, List.set_cons_succ])
    refine wpAnyH_done (by as_aux_lemma => kernel_rfl) ?_ _
    go_wp2_with fail
    go_ret
    exact ⟨rfl, below_all B3.out hq⟩

end Go.Proofs.Ythhkcckikmldcaa
