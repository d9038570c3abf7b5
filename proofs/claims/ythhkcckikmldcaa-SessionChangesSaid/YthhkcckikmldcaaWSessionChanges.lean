/-
  The walk of SessionChanges over a table as it is read.
-/
import Derived.Test.YthhkcckikmldcaaChg2
import Derived.Test.YthhkcckikmldcaaWSessions
set_option linter.unusedVariables false
set_option linter.unusedSimpArgs false
namespace Go.Proofs.Ythhkcckikmldcaa
open Go.RowKit Go.Shelf

attribute [local go_sem] Oper.semAt_some

def fstAt (L : List (Int × Int)) (i : Nat) : Int := (L.getD i (0, 0)).1
def sndAt (L : List (Int × Int)) (i : Nat) : Int := (L.getD i (0, 0)).2
/-- A list of pairs at an address between two bounds. -/
def Lies (lo hi : Nat) (A : Option Addr) (L : List (Int × Int)) (W : World) : Prop :=
  0 < L.length → ∃ b, A = some ⟨b, 0, none⟩ ∧ lo ≤ b ∧ b < hi ∧ (∀ i, i < L.length → W.cell? ⟨b, i * 2, none⟩ = some (.int .i64 (fstAt L i))) ∧ (∀ i, i < L.length → W.cell? ⟨b, i * 2 + 1, none⟩ = some (.int .i64 (sndAt L i)))
theorem own2_lies {lo : Nat} {v : Value} {L : List (Int × Int)} {W : World} (h : Own2 lo v L W) : ∃ A c, v = .slice A L.length c ∧ Lies lo W.heap.size A L W := by
  unfold Own2 at h
  rcases h.2 with ⟨e, h0⟩ | ⟨g, cap, cur, hv, hb, hg, _⟩
  · exact ⟨none, 0, by rw [e, h0], fun h => by omega⟩
  · refine ⟨_, cap, hv, fun hn => ⟨g, rfl, hb, (Array.getElem?_eq_some_iff.1 hg).1, ?_⟩⟩
    have hc := h.cells (g := g) (by rw [hv]; rfl)
    constructor
    · intro i hi
      have := hc (i * 2) _ (flat_get L i hi).1
      rw [add_at, Nat.zero_add] at this
      rw [this]; simp [fstAt, hi]
    · intro i hi
      have := hc (i * 2 + 1) _ (flat_get L i hi).2
      rw [add_at, Nat.zero_add] at this
      rw [this]; simp [sndAt, hi]
theorem Lies.below {lo hi : Nat} {A : Option Addr} {L : List (Int × Int)} {W W1 : World} (h : Lies lo hi A L W) (hb : Below hi W W1) : Lies lo hi A L W1 := fun hn => by
  obtain ⟨b, e, h1, h2, h3, h4⟩ := h hn
  exact ⟨b, e, h1, h2, fun i hi => (hb.cell (p := ⟨b, i * 2, none⟩) h2).trans (h3 i hi), fun i hi => (hb.cell (p := ⟨b, i * 2 + 1, none⟩) h2).trans (h4 i hi)⟩
theorem Lies.kept {lo hi : Nat} {A : Option Addr} {L : List (Int × Int)} {W W1 : World} {row : Option Nat} (h : Lies lo hi A L W) (hg : W.grownBy W1 row) (hr : ∀ r, row = some r → ∃ o : Obj, W.heap[r]? = some o ∧ o.isCells = false) : Lies lo hi A L W1 := fun hn => by
  obtain ⟨b, e, h1, h2, h3, h4⟩ := h hn
  exact ⟨b, e, h1, h2, fun i hi => cell_kept (h3 i hi) hg hr, fun i hi => cell_kept (h4 i hi) hg hr⟩
theorem Lies.setCell {lo hi : Nat} {A : Option Addr} {L : List (Int × Int)} {W : World} (h : Lies lo hi A L W) (p : Addr) (v : Value) (hp : p.block < lo ∨ hi ≤ p.block) : Lies lo hi A L (W.setCell p v) := fun hn => by
  obtain ⟨b, e, h1, h2, h3, h4⟩ := h hn
  exact ⟨b, e, h1, h2, fun i hi => by rw [World.cell?_setCell_far _ _ _ _ (by show p.block ≠ b; omega)]; exact h3 i hi, fun i hi => by rw [World.cell?_setCell_far _ _ _ _ (by show p.block ≠ b; omega)]; exact h4 i hi⟩

theorem rows_at {w W : World} {A : Option Addr} {n : Nat} {T F : Nat → Int} (h : Rows2 w A n T F) (hb : Below w.heap.size w W) :
    0 < n → ∃ b off, A = some ⟨b, off, none⟩ ∧ b < w.heap.size ∧ (∀ i, i < n → W.cell? ⟨b, off + i * 2, none⟩ = some (.int .i64 (T i))) ∧ (∀ i, i < n → W.cell? ⟨b, off + i * 2 + 1, none⟩ = some (.int .i64 (F i))) := fun hn => by
  obtain ⟨b, off, e, h1, h2⟩ := h.2 hn
  exact ⟨b, off, e, World.block_lt_of_cell? w _ (h1 0 hn), fun i hi => bcell hb (h1 i hi), fun i hi => bcell hb (h2 i hi)⟩

/-- What the law's own cells hold between two rounds, k rows having come. -/
def ChI (N0 N M H : Nat) (stop : Int) (V : Option Addr) (cv : Nat) (L : List (Int × Int)) (k : Nat) (W : World) : Prop :=
  W.cell? ⟨N0, 0, none⟩ = some (.int .i64 stop) ∧ W.cell? ⟨N, 0, none⟩ = some (.bool false) ∧ W.frozen? ⟨N, 0, none⟩ = false ∧ W.cell? ⟨H, 0, none⟩ = some (.slice V L.length cv) ∧
  W.cell? ⟨H + 1, 0, none⟩ = some (.int .i64 (k : Int)) ∧ W.frozen? ⟨H + 1, 0, none⟩ = false ∧ Lies M H V L W
theorem ChI.kept {N0 N M H : Nat} {stop : Int} {V : Option Addr} {cv : Nat} {L : List (Int × Int)} {k : Nat} {W W1 : World} {row : Option Nat} (h : ChI N0 N M H stop V cv L k W) (hg : W.grownBy W1 row) (hr : ∀ r, row = some r → ∃ o : Obj, W.heap[r]? = some o ∧ o.isCells = false) : ChI N0 N M H stop V cv L k W1 :=
  ⟨cell_kept h.1 hg hr, cell_kept h.2.1 hg hr, (frozen_kept h.2.1 hg hr).trans h.2.2.1, cell_kept h.2.2.2.1 hg hr, cell_kept h.2.2.2.2.1 hg hr, (frozen_kept h.2.2.2.2.1 hg hr).trans h.2.2.2.2.2.1, h.2.2.2.2.2.2.kept hg hr⟩
theorem ChI.step {N0 N M H : Nat} {stop : Int} {V : Option Addr} {cv : Nat} {L : List (Int × Int)} {k : Nat} {W : World} (h : ChI N0 N M H stop V cv L k W) (h1 : N0 < M) (h2 : N < M) (h3 : M ≤ H) :
    ChI N0 N M H stop V cv L (k + 1) (W.setCell ⟨H + 1, 0, none⟩ (.int .i64 ((k : Int) + 1))) :=
  ⟨(World.cell?_setCell_far _ _ _ _ (by show H + 1 ≠ N0; omega)).trans h.1, (World.cell?_setCell_far _ _ _ _ (by show H + 1 ≠ N; omega)).trans h.2.1, by rw [World.frozen?_setCell]; exact h.2.2.1, (World.cell?_setCell_far _ _ _ _ (by show H + 1 ≠ H; omega)).trans h.2.2.2.1,
   World.cell?_setCell_same' _ _ _ (by rw [h.2.2.2.2.1]; rfl), by rw [World.frozen?_setCell]; exact h.2.2.2.2.2.1, h.2.2.2.2.2.2.setCell _ _ (.inr (by show H ≤ H + 1; omega))⟩

theorem three_new (W : World) (a b c : Value) (t1 t2 t3 : TypeId) :
    (((W.alloc (.cells #[a] t1)).alloc (.cells #[b] t2)).alloc (.cells #[c] t3)).cell? ⟨W.heap.size, 0, none⟩ = some a ∧
    (((W.alloc (.cells #[a] t1)).alloc (.cells #[b] t2)).alloc (.cells #[c] t3)).cell? ⟨W.heap.size + 1, 0, none⟩ = some b ∧
    (((W.alloc (.cells #[a] t1)).alloc (.cells #[b] t2)).alloc (.cells #[c] t3)).frozen? ⟨W.heap.size + 1, 0, none⟩ = false ∧
    (((W.alloc (.cells #[a] t1)).alloc (.cells #[b] t2)).alloc (.cells #[c] t3)).cell? ⟨W.heap.size + 1 + 1, 0, none⟩ = some c := by
  have h1 := Boxed.new W t1 a
  have h2 := Boxed.new (W.alloc (.cells #[a] t1)) t2 b
  have h3 := Boxed.new ((W.alloc (.cells #[a] t1)).alloc (.cells #[b] t2)) t3 c
  simp only [World.size_alloc] at h2 h3
  exact ⟨((h1.alloc _).alloc _).cell, (h2.alloc _).cell, (h2.alloc _).frozen, h3.cell⟩

theorem prefix_snoc_yes {L pre : List (Int × Int)} {x : Int × Int} (h : pre <+: L) (hm : pre.length < L.length) (h1 : fstAt L pre.length = x.1) (h2 : sndAt L pre.length = x.2) : pre ++ [x] <+: L := by
  obtain ⟨r, rfl⟩ := h
  cases r with
  | nil => simp at hm
  | cons y r =>
    have : y = x := by
      simp only [fstAt, sndAt, List.getD_eq_getElem?_getD, List.getElem?_append_right (Nat.le_refl _), Nat.sub_self, List.getElem?_cons_zero, Option.getD_some] at h1 h2
      exact Prod.ext h1 h2
    subst this
    exact ⟨r, by simp⟩
theorem prefix_snoc_no {L pre : List (Int × Int)} {x : Int × Int} (h : pre ++ [x] <+: L) : pre.length < L.length ∧ fstAt L pre.length = x.1 ∧ sndAt L pre.length = x.2 := by
  obtain ⟨r, rfl⟩ := h
  simp [fstAt, sndAt, List.getD_eq_getElem?_getD]

set_option maxRecDepth 100000 in
set_option maxHeartbeats 2000000 in
theorem walkSessionChanges (w : World) (A : Option Addr) (n c : Nat) (hnc : n ≤ c) (hmx : c ≤ 9223372036854775807) (G : Nat → Nat → Int) (h : Tab w A n 2 G) (hg : ∀ i, i < n → ∀ j, j < 2 → i64Ok (G i j)) (stop : Int) (ht : -9223372036854775808 ≤ stop ∧ stop ≤ 9223372036854775807) :
    Calls Try.prog 8 #[.slice A n c, .int .i64 stop] w fun e w' => e = .returned (.bool true) ∧ Below w.heap.size w w' := by
  have HL := Lib.hid (fun W (hb : Below w.heap.size w W) => light_gen A n c G 0 W (h.below hb) (by omega))
  refine (callsIn_wide (n := 6)).1 ?_
  have hro : Fence.wide.round = none := rfl
  cases hl : ltB n (fun i => G i 0) 0
  · rw [hl] at HL
    clear hl h hg
    refine callsIn_of_wp_marks Try.func8 rfl trivial ?_ rfl
    simp only [Try.ntmps8, List.size_toArray, List.length_cons, List.length_nil, Nat.reduceAdd, Nat.reduceSub, Array.replicate_succ, Array.replicate_zero, List.push_toArray, List.append_toArray, List.nil_append, List.cons_append]
    have B0 : Below w.heap.size w ((w.alloc (.cells #[.int .i64 stop] 3)).alloc (.cells #[.bool false] 4)) := ((Below.refl _ w).alloc (Nat.le_refl _) _).alloc (by simp) _
    have HB0 := Lib.hid B0
    clear B0
    have C4 : ((w.alloc (.cells #[.int .i64 stop] 3)).alloc (.cells #[.bool false] 4)).cell? ⟨w.heap.size + 1, 0, none⟩ = some (.bool false) ∧ ((w.alloc (.cells #[.int .i64 stop] 3)).alloc (.cells #[.bool false] 4)).frozen? ⟨w.heap.size + 1, 0, none⟩ = false := by simp
    have HC4 := Lib.hid C4
    clear C4
    gi_wp2_with fail
    refine ⟨trivial, (callsIn_wide.2 (alive8 _)).mono ?_⟩
    rintro e w1 ⟨rfl, hb1⟩
    have P1 := Lib.hid (below_all HB0.out hb1)
    have q1 := bcell hb1 HC4.out.1
    have f1 := (hb1.frozen (p := ⟨w.heap.size + 1, 0, none⟩) (World.block_lt_of_cell? _ _ HC4.out.1)).trans HC4.out.2
    have hN : w.heap.size ≤ w.heap.size + 1 := by omega
    generalize w.heap.size + 1 = N at q1 f1 hN ⊢
    clear hb1 HC4 HB0
    gi_wp2_with fail
    refine ⟨trivial, (callsIn_wide.2 (HL.out _ P1.out)).mono ?_⟩
    rintro e w2 ⟨rfl, hb2⟩
    have P2 := Lib.hid (below_all P1.out hb2)
    have q2 := bcell hb2 q1
    have f2 := (hb2.frozen (p := ⟨N, 0, none⟩) (World.block_lt_of_cell? _ _ q1)).trans f1
    clear hb2 q1 f1 P1
    gi_wp2_with fail
    have c3 := World.cell?_setCell_same' w2 ⟨N, 0, none⟩ (.bool true) (by rw [q2]; rfl)
    exact ⟨.bool true, by simp [results, Try.f8, go_sem, c3], rfl, P2.out.setCell (p := ⟨N, 0, none⟩) hN _⟩
  · rw [hl] at HL
    obtain ⟨h60, hr, _⟩ := ltB_yes hl
    have hR := rows2_of h h60
    clear hl h hg
    have C3 : ((w.alloc (.cells #[.int .i64 stop] 3)).alloc (.cells #[.bool false] 4)).cell? ⟨w.heap.size, 0, none⟩ = some (.int .i64 stop) := by simp
    have HC3 := Lib.hid C3
    clear C3
    have HRC := Lib.hid (fun W (hb : Below w.heap.size w W) => refChanges_any A n c (fun i => G i 0) (fun i => G i 1) W (hR.below hb) (by omega))
    have HS := Lib.hid (fun W (hb : Below w.heap.size w W) Bs hBl hBs => changes_stops Fence.wide 5 trivial rfl (by omega) Bs w.heap.size A n c (fun i => G i 0) (fun i => G i 1) (by omega) W hBl hBs hb.size (rows_at hR hb))
    generalize hL : chgs (fun i => G i 0) (fun i => G i 1) n = L at HRC HS
    refine callsIn_of_wp_marks Try.func8 rfl trivial ?_ rfl
    simp only [Try.ntmps8, List.size_toArray, List.length_cons, List.length_nil, Nat.reduceAdd, Nat.reduceSub, Array.replicate_succ, Array.replicate_zero, List.push_toArray, List.append_toArray, List.nil_append, List.cons_append]
    have B0 : Below w.heap.size w ((w.alloc (.cells #[.int .i64 stop] 3)).alloc (.cells #[.bool false] 4)) := ((Below.refl _ w).alloc (Nat.le_refl _) _).alloc (by simp) _
    have HB0 := Lib.hid B0
    clear B0
    have C4 : ((w.alloc (.cells #[.int .i64 stop] 3)).alloc (.cells #[.bool false] 4)).cell? ⟨w.heap.size + 1, 0, none⟩ = some (.bool false) ∧ ((w.alloc (.cells #[.int .i64 stop] 3)).alloc (.cells #[.bool false] 4)).frozen? ⟨w.heap.size + 1, 0, none⟩ = false := by simp
    have HC4 := Lib.hid C4
    clear C4
    gi_wp2_with fail
    refine ⟨trivial, (callsIn_wide.2 (alive8 _)).mono ?_⟩
    rintro e w1 ⟨rfl, hb1⟩
    have P1 := Lib.hid (below_all HB0.out hb1)
    have q1 := bcell hb1 HC4.out.1
    have p1 := bcell hb1 HC3.out
    have f1 := (hb1.frozen (p := ⟨w.heap.size + 1, 0, none⟩) (World.block_lt_of_cell? _ _ HC4.out.1)).trans HC4.out.2
    have hN : w.heap.size ≤ w.heap.size + 1 := by omega
    generalize hNe : w.heap.size + 1 = N at q1 f1 hN ⊢
    clear hb1 HC4 HB0 HC3
    gi_wp2_with fail
    refine ⟨trivial, (callsIn_wide.2 (HL.out _ P1.out)).mono ?_⟩
    rintro e w2 ⟨rfl, hb2⟩
    have P2 := Lib.hid (below_all P1.out hb2)
    have q2 := bcell hb2 q1
    have p2 := bcell hb2 p1
    have f2 := (hb2.frozen (p := ⟨N, 0, none⟩) (World.block_lt_of_cell? _ _ q1)).trans f1
    clear hb2 q1 p1 f1 P1
    gi_wp2_with fail
    refine ⟨trivial, (callsIn_wide.2 (HRC.out _ P2.out)).mono ?_⟩
    rintro e w3 ⟨v, rfl, ho, hb3⟩
    obtain ⟨V, cv, rfl, hlies⟩ := own2_lies ho
    have P3 := Lib.hid (below_all P2.out hb3)
    have q3 := bcell hb3 q2
    have p3 := bcell hb3 p2
    have f3 := (hb3.frozen (p := ⟨N, 0, none⟩) (World.block_lt_of_cell? _ _ q2)).trans f2
    have hNM := World.block_lt_of_cell? _ _ q2
    have hMH := hb3.size
    have HLi := Lib.hid hlies
    clear hb3 q2 p2 f2 P2 ho hlies HRC HL
    gi_wp2_with fail
    refine ⟨trivial, (callsIn_wide.2 (changes_any A n c _)).mono ?_⟩
    rintro e w4 ⟨rfl, rfl⟩
    gi_wp2_with fail
    have hL60 : L.length ≤ 60 := by rw [← hL]; have := chgs_len (fun i => G i 0) (fun i => G i 1) n; omega
    have B5 : Below w3.heap.size w3 (((w3.alloc (.cells #[.slice V L.length cv] 22)).alloc (.cells #[.int .i64 0] 3)).alloc (.cells #[.slice A n c] 22)) := (((Below.refl _ _).alloc (Nat.le_refl _) _).alloc (by simp) _).alloc (by simp; omega) _
    have K3 := three_new w3 (.slice V L.length cv) (.int .i64 0) (.slice A n c) 22 3 22
    have hCh : ChI w.heap.size N w2.heap.size w3.heap.size stop V cv L 0 (((w3.alloc (.cells #[.slice V L.length cv] 22)).alloc (.cells #[.int .i64 0] 3)).alloc (.cells #[.slice A n c] 22)) :=
      ⟨bcell B5 p3, bcell B5 q3, (B5.frozen (p := ⟨N, 0, none⟩) (World.block_lt_of_cell? _ _ q3)).trans f3, K3.1, K3.2.1, K3.2.2.1, HLi.out.below B5⟩
    have HK3 := Lib.hid K3
    have HQ := HS.out _ (P3.out.trans (B5.mono P3.out.size)) (w3.heap.size + 1 + 1) (by simp) HK3.out.2.2.2
    have HB5 := below_all P3.out B5
    have hN0 : w.heap.size < N := by omega
    clear q3 p3 f3 HS B5 HLi K3 HK3
    refine wpIn_rangeFunc_ownF rfl (by omega) (gf := 95) (lb := #[.pointer (some ⟨w3.heap.size + 1 + 1, 0, none⟩)]) rfl trivial (enters_of Try.func95 (by kernel_rfl) rfl)
      HQ belowK_t (belowK_b (by have := HB5.size; exact this)) (Below.refl _ _) (fun _ => rfl)
      (fun pre W => ((pre <+: L ∧ ((pre.length : Int) < stop ∨ stop ≤ 0)) ∧ ChI w.heap.size N w2.heap.size w3.heap.size stop V cv L pre.length W) ∧ Below w.heap.size w W)
      (fun ce pre W => ((ce = .ret ∧ ¬ pre <+: L) ∨ (ce = .exit 0 ∧ 0 < pre.length ∧ (pre.length : Int) = stop ∧ pre <+: L ∧ ChI w.heap.size N w2.heap.size w3.heap.size stop V cv L pre.length W)) ∧ Below w.heap.size w W)
      (OwnFrom.and (Own.from (fun s X Y row hs hg hr => ⟨hs.1, hs.2.kept hg hr⟩) _) (ownFrom_below (Nat.le_refl _) HB5.size))
      (fun ce => OwnFrom.and (Own.from (fun s X Y row hs hg hr => by
        rcases hs with h | ⟨h1, h2, h3, h4, h5⟩
        · exact .inl h
        · exact .inr ⟨h1, h2, h3, h4, h5.kept hg hr⟩) _) (ownFrom_below (Nat.le_refl _) HB5.size))
      ⟨⟨⟨List.nil_prefix, by simp; omega⟩, hCh⟩, HB5⟩
      (fun x => { tmps := #[.slice A n c, .int .i64 stop, undef, .pointer (some ⟨w.heap.size, 0, none⟩), .pointer (some ⟨N, 0, none⟩), .pointer (some ⟨w3.heap.size, 0, none⟩), .pointer (some ⟨w3.heap.size + 1, 0, none⟩), .int .i64 x.1, .int .i64 x.2, undef, .bool true, .bool false, .slice A n c, .bool true, .bool false, .slice A n c, .slice V L.length cv, .slice A n c, .func (.func 95) #[] #[.pointer (some ⟨w3.heap.size + 1 + 1, 0, none⟩)], .int .i64 x.1, .int .i64 x.2, undef, undef, undef, undef, undef, undef, undef, undef, undef, undef, undef, undef, undef, undef, undef, undef, undef, undef, undef, undef, undef, undef, undef, undef, undef, undef, undef, undef, undef, undef, undef, undef], defers := [] }) ?assign ?body ?done ?stop
    case assign =>
      intro l x W K hK
      simp only [enc2]
      gi_wp2
      exact hK
    case body =>
      rintro l pre x W ⟨⟨⟨hp, hst⟩, hI⟩, hB⟩ _
      have hStep := Lib.hid (hI.step (by omega) hNM hMH)
      obtain ⟨i1, i2, i3, i4, i5, i6, i7⟩ := hI
      have hpl : pre.length ≤ L.length := hp.length_le
      have hB1 := Lib.hid hB
      have hP := Lib.hid hp
      have HSt := Lib.hid hst
      have HLi := Lib.hid i7
      clear hp hB i7 hst
      by_cases hm : pre.length < L.length
      · have hm' : (pre.length : Int) < (L.length : Int) := by omega
        obtain ⟨b, rfl, hb1, hb2, hc1, hc2⟩ := HLi.out (by omega)
        have c1 := hc1 _ hm
        have c2 := hc2 _ hm
        clear hc1 hc2
        by_cases h1 : fstAt L pre.length = x.1
        · by_cases h2 : sndAt L pre.length = x.2
          · have HY := Lib.hid (prefix_snoc_yes hP.out hm h1 h2)
            rw [h1] at c1
            rw [h2] at c2
            clear h1 h2
            by_cases h3 : (pre.length : Int) + 1 = stop
            · have h3' : ((pre.length : Int) + 1 == stop) = true := by simp [h3]
              have H3 := Lib.hid h3
              clear h3
              gi_wp2
              exact ⟨KeepsOthers.setCell _ _ _, .inr ⟨rfl, by simp, by rw [← H3.out]; simp, HY.out, by rw [List.length_append]; exact hStep.out⟩, hB1.out.setCell (p := ⟨w3.heap.size + 1, 0, none⟩) (by show _ ≤ w3.heap.size + 1; omega) _⟩
            · have h3' : ((pre.length : Int) + 1 == stop) = false := by simp [h3]
              have H3 := Lib.hid h3
              clear h3
              gi_wp2
              exact ⟨KeepsOthers.setCell _ _ _, (Below.refl _ _).setCell (p := ⟨w3.heap.size + 1, 0, none⟩) (by show _ ≤ w3.heap.size + 1; omega) _, ⟨⟨HY.out, by have := HSt.out; have := H3.out; simp; omega⟩, by rw [List.length_append]; exact hStep.out⟩, hB1.out.setCell (p := ⟨w3.heap.size + 1, 0, none⟩) (by show _ ≤ w3.heap.size + 1; omega) _⟩
          · have h2' : (sndAt L pre.length == x.2) = false := by simp [h2]
            have H2 := Lib.hid h2
            rw [h1] at c1
            clear h1 h2
            gi_wp2
            exact ⟨KeepsOthers.setCell _ _ _, .inl ⟨rfl, fun h => H2.out (prefix_snoc_no h).2.2⟩, hB1.out.setCell (p := ⟨N, 0, none⟩) hN _⟩
        · have h1' : (fstAt L pre.length == x.1) = false := by simp [h1]
          have H1 := Lib.hid h1
          clear h1
          gi_wp2
          exact ⟨KeepsOthers.setCell _ _ _, .inl ⟨rfl, fun h => H1.out (prefix_snoc_no h).2.1⟩, hB1.out.setCell (p := ⟨N, 0, none⟩) hN _⟩
      · have hm' : ¬ (pre.length : Int) < (L.length : Int) := by omega
        gi_wp2
        exact ⟨KeepsOthers.setCell _ _ _, .inl ⟨rfl, fun h => hm (prefix_snoc_no h).1⟩, hB1.out.setCell (p := ⟨N, 0, none⟩) hN _⟩
    case done =>
      rintro D ys W hD rfl ⟨⟨⟨hp, hst⟩, hI⟩, hB⟩ hK
      obtain ⟨i1, i2, i3, i4, i5, i6, i7⟩ := hI
      have HK := Lib.hid hK
      have HB := Lib.hid hB
      clear i7 hK hB hp
      rcases hst with hst | hst
      · have hs : 0 < stop := by omega
        gi_wp2
        have hK' := (KeepsOthers.setCell W ⟨N, 0, none⟩ (.bool true)).same D _ HK.out rfl
        refine ⟨by simp, .inl ⟨_, _, rfl, run_takeDeferred hK', ?_⟩⟩
        have hc5 := cell_kept (World.cell?_setCell_same' W ⟨N, 0, none⟩ (.bool true) (by rw [i2]; rfl)) (grownBy_putObj' _ D (.deferred none)) (fun r e => by cases e; exact ⟨_, hK', rfl⟩)
        refine ⟨.bool true, ?_, rfl, (HB.out.setCell (p := ⟨N, 0, none⟩) hN _).trans (belowK_b (w := w) (Nat.le_refl _) _ D _ _ (Nat.le_trans HB5.size hD) hK' rfl rfl)⟩
        simp [results, Try.f8, go_sem, hc5]
      · gi_wp2
        have hK' := (KeepsOthers.setCell W ⟨N, 0, none⟩ (.bool true)).same D _ HK.out rfl
        refine ⟨by simp, .inl ⟨_, _, rfl, run_takeDeferred hK', ?_⟩⟩
        have hc5 := cell_kept (World.cell?_setCell_same' W ⟨N, 0, none⟩ (.bool true) (by rw [i2]; rfl)) (grownBy_putObj' _ D (.deferred none)) (fun r e => by cases e; exact ⟨_, hK', rfl⟩)
        refine ⟨.bool true, ?_, rfl, (HB.out.setCell (p := ⟨N, 0, none⟩) hN _).trans (belowK_b (w := w) (Nat.le_refl _) _ D _ _ (Nat.le_trans HB5.size hD) hK' rfl rfl)⟩
        simp [results, Try.f8, go_sem, hc5]
    case stop =>
      rintro D ce pre W hD ⟨k, hk, hpre⟩ ⟨h | ⟨rfl, h0, h3, h4, hI⟩, hB⟩ hK
      · exact (h.2 (by rw [hpre, ← hL]; obtain ⟨m, rfl⟩ : ∃ m, n = k + m := ⟨n - k, by omega⟩; exact chgs_prefix _ _ k m)).elim
      · obtain ⟨i1, i2, i3, i4, i5, i6, i7⟩ := hI
        have HK := Lib.hid hK
        have HB := Lib.hid hB
        have hle : stop ≤ (L.length : Int) := by have := h4.length_le; omega
        have hs : 0 < stop := by omega
        rw [h3] at i5
        clear i7 hK hB h4 h3 h0 hpre
        by_cases hlt : stop < (L.length : Int)
        · gi_wp2
          have hK' := (KeepsOthers.setCell W ⟨N, 0, none⟩ (.bool true)).same D _ HK.out rfl
          refine ⟨by simp, .inl ⟨_, _, rfl, run_takeDeferred hK', ?_⟩⟩
          have hc5 := cell_kept (World.cell?_setCell_same' W ⟨N, 0, none⟩ (.bool true) (by rw [i2]; rfl)) (grownBy_putObj' _ D (.deferred none)) (fun r e => by cases e; exact ⟨_, hK', rfl⟩)
          refine ⟨.bool true, ?_, rfl, (HB.out.setCell (p := ⟨N, 0, none⟩) hN _).trans (belowK_b (w := w) (Nat.le_refl _) _ D _ _ (Nat.le_trans HB5.size hD) hK' rfl rfl)⟩
          simp [results, Try.f8, go_sem, hc5]
        · have heq : (stop == (L.length : Int)) = true := by simp; omega
          gi_wp2
          have hK' := (KeepsOthers.setCell W ⟨N, 0, none⟩ (.bool true)).same D _ HK.out rfl
          refine ⟨by simp, .inl ⟨_, _, rfl, run_takeDeferred hK', ?_⟩⟩
          have hc5 := cell_kept (World.cell?_setCell_same' W ⟨N, 0, none⟩ (.bool true) (by rw [i2]; rfl)) (grownBy_putObj' _ D (.deferred none)) (fun r e => by cases e; exact ⟨_, hK', rfl⟩)
          refine ⟨.bool true, ?_, rfl, (HB.out.setCell (p := ⟨N, 0, none⟩) hN _).trans (belowK_b (w := w) (Nat.le_refl _) _ D _ _ (Nat.le_trans HB5.size hD) hK' rfl rfl)⟩
          simp [results, Try.f8, go_sem, hc5]
end Go.Proofs.Ythhkcckikmldcaa
