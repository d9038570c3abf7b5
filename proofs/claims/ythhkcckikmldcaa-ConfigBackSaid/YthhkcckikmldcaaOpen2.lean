/-
  How a configuration that came in is read; structs of int64 by value.
-/
import Derived.Test.YthhkcckikmldcaaCfg4
set_option linter.unusedVariables false
set_option linter.unusedSimpArgs false
namespace Go.Proofs.Ythhkcckikmldcaa
open Go.ChangeShapes Go.WideShapes Go.ChangeAt Go.RowKit Go.Deep

section
variable {H : Type} {enc : TypeId × Value → H} {w : World} {base : Nat} {spare : Nat → Bool} {held : Bool} {r : Reach} {b0 : Nat} {v : Value} {d : DataW H} {p : List MemPlace}

set_option maxRecDepth 100000 in
theorem open_cfg (hv : Value.okWide Try.prog w r b0 35 v) (h : DataW.Trod enc Try.prog w base spare held 35 v d p) :
    ∃ (A : Option Addr) (n c : Nat) (B : Option Addr) (m e : Nat) (S R : Nat → Nat → Int) (x : Nat → Int), v = .agg #[.slice A n c, .slice B m e, .int .i64 (x 0), .int .i64 (x 1), .int .i64 (x 2), .int .i64 (x 3), .int .i64 (x 4), .int .i64 (x 5)] ∧ CfgIn w A n c B m e S R x := by
  obtain ⟨cs, rfl, hsz⟩ := okWide_struct Try.underlying35 hv
  rw [cells35] at hsz
  obtain ⟨l⟩ := cs
  obtain ⟨fuel, hf⟩ := h
  obtain ⟨xs, n', _, _, hl, hxl, hg⟩ := DataW.trod_struct Try.underlying35 hf
  have hl8 : l.length = 8 := hsz
  obtain ⟨c0, c1, c2, c3, c4, c5, c6, c7, rfl⟩ : ∃ c0 c1 c2 c3 c4 c5 c6 c7, l = [c0, c1, c2, c3, c4, c5, c6, c7] := by
    match l, hl8 with
    | [a0, a1, a2, a3, a4, a5, a6, a7], _ => exact ⟨a0, a1, a2, a3, a4, a5, a6, a7, rfl⟩
  have hx : ∀ j, j < 5 → ∃ y, xs[j]? = some y := fun j hj => ⟨xs[j]'(by simp at hxl; omega), by rw [List.getElem?_eq_getElem]⟩
  have h0 : DataW.trod enc Try.prog w base spare held n' 31 (([c0, c1, c2, c3, c4, c5, c6, c7].drop 0).take (Try.prog.cellsOf 31)) = xs[0]? := hg 0 _ rfl
  have h1 : DataW.trod enc Try.prog w base spare held n' 22 (([c0, c1, c2, c3, c4, c5, c6, c7].drop 1).take (Try.prog.cellsOf 22)) = xs[1]? := hg 1 _ rfl
  have h2 : DataW.trod enc Try.prog w base spare held n' 2 (([c0, c1, c2, c3, c4, c5, c6, c7].drop 2).take (Try.prog.cellsOf 2)) = xs[2]? := hg 2 _ rfl
  have h3 : DataW.trod enc Try.prog w base spare held n' 32 (([c0, c1, c2, c3, c4, c5, c6, c7].drop 3).take (Try.prog.cellsOf 32)) = xs[3]? := hg 3 _ rfl
  have h4 : DataW.trod enc Try.prog w base spare held n' 33 (([c0, c1, c2, c3, c4, c5, c6, c7].drop 6).take (Try.prog.cellsOf 33)) = xs[4]? := hg 4 _ rfl
  obtain ⟨y0, hy0⟩ := hx 0 (by omega)
  obtain ⟨y1, hy1⟩ := hx 1 (by omega)
  obtain ⟨y2, hy2⟩ := hx 2 (by omega)
  obtain ⟨y3, hy3⟩ := hx 3 (by omega)
  obtain ⟨y4, hy4⟩ := hx 4 (by omega)
  rw [cells31] at h0
  rw [cells22] at h1
  rw [cells2] at h2
  rw [cells32] at h3
  rw [cells33] at h4
  rw [hy0] at h0
  rw [hy1] at h1
  rw [hy2] at h2
  rw [hy3] at h3
  rw [hy4] at h4
  obtain ⟨A, n, c, e0, hnc, hcm, S, hS, hSo⟩ := open_syms31 h0
  obtain ⟨B, m, e, e1, hmd, hdm, R, hR, hRo⟩ := open_rows22 h1
  obtain ⟨q, e2, _, hwq⟩ := DataW.trod_int Try.underlying2 h2
  obtain ⟨ga, e3, hga⟩ := trod_arr_ints Try.underlying32 Try.underlying3 cells3 cells32 h3
  obtain ⟨gb, e4, hgb⟩ := trod_arr_ints Try.underlying33 Try.underlying2 cells2 cells33 h4
  have q0 : c0 = .slice A n c := by simpa using e0
  have q1 : c1 = .slice B m e := by simpa using e1
  have q2 : c2 = .int .i64 q := by simpa using e2
  have q3 : c3 = .int .i64 (ga 0) ∧ c4 = .int .i64 (ga 1) ∧ c5 = .int .i64 (ga 2) := by
    have : [c3, c4, c5] = [.int .i64 (ga 0), .int .i64 (ga 1), .int .i64 (ga 2)] := e3
    simpa using this
  have q4 : c6 = .int .i64 (gb 0) ∧ c7 = .int .i64 (gb 1) := by
    have : [c6, c7] = [.int .i64 (gb 0), .int .i64 (gb 1)] := e4
    simpa using this
  obtain ⟨q3, q3', q3''⟩ := q3
  obtain ⟨q4, q4'⟩ := q4
  subst q0 q1 q2 q3 q3' q3'' q4 q4'
  refine ⟨A, n, c, B, m, e, S, R, fun j => [q, ga 0, ga 1, ga 2, gb 0, gb 1].getD j 0, rfl, hS, hR, hnc, hcm, hmd, hdm, hSo, hRo, fun j hj => ?_⟩
  rcases (by omega : j = 0 ∨ j = 1 ∨ j = 2 ∨ j = 3 ∨ j = 4 ∨ j = 5) with rfl | rfl | rfl | rfl | rfl | rfl
  · exact bounds_i64 hwq
  · exact hga 0 (by omega)
  · exact hga 1 (by omega)
  · exact hga 2 (by omega)
  · exact hgb 0 (by omega)
  · exact hgb 1 (by omega)

set_option maxRecDepth 100000 in
/-- A struct of k int64 cells by value. -/
theorem open_agg_of {t : TypeId} {fs : Array Field} (k : Nat) (hs : Try.prog.underlying t = some (.struct fs)) (hone : oneCellFields Try.prog fs = true) (hint : allInts Try.prog fs = true) (hC : Try.prog.cellsOf t = fs.size) (hk : fs.size = k)
    (hv : Value.okWide Try.prog w r b0 t v) (h : DataW.Trod enc Try.prog w base spare held t v d p) :
    ∃ g : Nat → Int, v = .agg ((List.range k).map fun j => Value.int .i64 (g j)).toArray ∧ ∀ j, j < k → i64Ok (g j) := by
  obtain ⟨cs, rfl, hsz⟩ := okWide_struct hs hv
  obtain ⟨fuel, hf⟩ := h
  obtain ⟨g, hg, hok⟩ := trod_ints hs hone hint hC hf
  subst hk
  refine ⟨g, ?_, hok⟩
  have : cs.toList = (List.range fs.size).map fun j => Value.int .i64 (g j) := hg
  rw [← this]
set_option maxRecDepth 100000 in
theorem open_agg56 (hv : Value.okWide Try.prog w r b0 56 v) (h : DataW.Trod enc Try.prog w base spare held 56 v d p) :
    ∃ g : Nat → Int, v = .agg #[.int .i64 (g 0), .int .i64 (g 1), .int .i64 (g 2), .int .i64 (g 3), .int .i64 (g 4), .int .i64 (g 5), .int .i64 (g 6), .int .i64 (g 7), .int .i64 (g 8), .int .i64 (g 9), .int .i64 (g 10), .int .i64 (g 11), .int .i64 (g 12), .int .i64 (g 13), .int .i64 (g 14), .int .i64 (g 15)] ∧ ∀ j, j < 16 → i64Ok (g j) := by
  obtain ⟨g, e, hok⟩ := open_agg_of 16 Try.underlying56 (by kernel_rfl) (by kernel_rfl) cells56 rfl hv h
  exact ⟨g, e, hok⟩
set_option maxRecDepth 100000 in
theorem open_agg58 (hv : Value.okWide Try.prog w r b0 58 v) (h : DataW.Trod enc Try.prog w base spare held 58 v d p) :
    ∃ g : Nat → Int, v = .agg #[.int .i64 (g 0), .int .i64 (g 1), .int .i64 (g 2)] ∧ ∀ j, j < 3 → i64Ok (g j) := by
  obtain ⟨g, e, hok⟩ := open_agg_of 3 Try.underlying58 (by kernel_rfl) (by kernel_rfl) cells58 rfl hv h
  exact ⟨g, e, hok⟩
set_option maxRecDepth 100000 in
theorem open_agg75 (hv : Value.okWide Try.prog w r b0 75 v) (h : DataW.Trod enc Try.prog w base spare held 75 v d p) :
    ∃ g : Nat → Int, v = .agg #[.int .i64 (g 0), .int .i64 (g 1)] ∧ ∀ j, j < 2 → i64Ok (g j) := by
  obtain ⟨g, e, hok⟩ := open_agg_of 2 Try.underlying75 (by kernel_rfl) (by kernel_rfl) cells75 rfl hv h
  exact ⟨g, e, hok⟩
end
end Go.Proofs.Ythhkcckikmldcaa
