/- PickScores: walked. -/
import Derived.Test.YtikhjnokfakgiaaPkE
import Derived.Deep.RegionHeld3
set_option linter.unusedSimpArgs false
set_option linter.unusedVariables false
namespace Go.Proofs.Ytikhjnokfakgiaa.Pk
open Go.Sort Go.RowKit Go.Maps Go.Proofs Go.Proofs.Ytikhjnokfakgiaa.Rw Go.Proofs.Ytikhjnokfakgiaa.PAll Go.Proofs.YtikhjnokfakgiaaW.PrintWords Go.Proofs.Ytikhjnokfakgiaa.Pb
attribute [local go_sem] put_fresh
attribute [-go_sem] Builtin.append_
attribute [-go_sem] sliced

/-! ### a version in the document's words -/
theorem ver_set {w : World} {jb : Nat} {t : TypeId} {a b c d : Value} (h : w.heap[jb]? = some (.cells #[a, b, c, d] t (0, 0))) (x y z u : Value) :
    w.cell? ⟨jb, 0, none⟩ = some a ∧ w.frozen? ⟨jb, 0, none⟩ = false ∧ (w.setCell ⟨jb, 0, none⟩ x).cell? ⟨jb, 1, none⟩ = some b ∧ (w.setCell ⟨jb, 0, none⟩ x).frozen? ⟨jb, 1, none⟩ = false ∧ ((w.setCell ⟨jb, 0, none⟩ x).setCell ⟨jb, 1, none⟩ y).cell? ⟨jb, 2, none⟩ = some c ∧ ((w.setCell ⟨jb, 0, none⟩ x).setCell ⟨jb, 1, none⟩ y).frozen? ⟨jb, 2, none⟩ = false ∧
    (((w.setCell ⟨jb, 0, none⟩ x).setCell ⟨jb, 1, none⟩ y).setCell ⟨jb, 2, none⟩ z).cell? ⟨jb, 3, none⟩ = some d ∧ (((w.setCell ⟨jb, 0, none⟩ x).setCell ⟨jb, 1, none⟩ y).setCell ⟨jb, 2, none⟩ z).frozen? ⟨jb, 3, none⟩ = false ∧
    ((((w.setCell ⟨jb, 0, none⟩ x).setCell ⟨jb, 1, none⟩ y).setCell ⟨jb, 2, none⟩ z).setCell ⟨jb, 3, none⟩ u).heap[jb]? = some (.cells #[x, y, z, u] t (0, 0)) ∧ w.grownBy ((((w.setCell ⟨jb, 0, none⟩ x).setCell ⟨jb, 1, none⟩ y).setCell ⟨jb, 2, none⟩ z).setCell ⟨jb, 3, none⟩ u) (some jb) := by
  have s1 := set_blk (j := 0) x h
  have s2 := set_blk (j := 1) y s1
  have s3 := set_blk (j := 2) z s2
  have s4 := set_blk (j := 3) u s3
  exact ⟨blk_cell h 0, blk_frozen h 0, blk_cell s1 1, blk_frozen s1 1, blk_cell s2 2, blk_frozen s2 2, blk_cell s3 3, blk_frozen s3 3, s4.trans rfl, sets_grown [x, y, z, u] 0 w⟩
set_option maxRecDepth 100000 in
set_option maxHeartbeats 4000000 in
theorem plain_c (W : World) (A : Option Addr) (n c : Nat) (x y z : Int) : Calls Try.prog 8 #[.agg #[.int .i64 x, .int .i64 y, .int .u64 z, .slice A n c]] W fun e w' => e = .returned (.agg #[.int .i64 x, .int .i64 y, .int .u64 z, .slice A n c]) ∧ Below W.heap.size W w' := by
  have b1 := below_alloc (Below.refl W.heap.size W) (vbox x y z (.slice A n c))
  have b2 := below_alloc b1 (.cells #[.int .i64 0, .int .i64 0, .int .u64 0, .slice none 0 0] 28 (0, 0))
  have hV : ((W.alloc (vbox x y z (.slice A n c))).alloc (.cells #[.int .i64 0, .int .i64 0, .int .u64 0, .slice none 0 0] 28 (0, 0))).heap[W.heap.size]? = some (vbox x y z (.slice A n c)) := (heap_alloc_old _ _ (by simp)).trans (heap_alloc_new W _)
  have hJ : ((W.alloc (vbox x y z (.slice A n c))).alloc (.cells #[.int .i64 0, .int .i64 0, .int .u64 0, .slice none 0 0] 28 (0, 0))).heap[W.heap.size + 1]? = some (.cells #[.int .i64 0, .int .i64 0, .int .u64 0, .slice none 0 0] 28 (0, 0)) := by have := heap_alloc_new (W.alloc (vbox x y z (.slice A n c))) (.cells #[.int .i64 0, .int .i64 0, .int .u64 0, .slice none 0 0] 28 (0, 0)); simpa using this
  generalize hw : (W.alloc (vbox x y z (.slice A n c))).alloc (.cells #[.int .i64 0, .int .i64 0, .int .u64 0, .slice none 0 0] 28 (0, 0)) = w0 at *
  obtain ⟨v0, v1, v2, v3⟩ := ver_cells hV
  obtain ⟨j0, f0, j1, f1, j2, f2, j3, f3, hJ2, hG⟩ := ver_set hJ (.int .i64 x) (.int .i64 y) (.int .u64 z) (.slice A n c)
  have HJ := Aside0.mk (And.intro hJ2 (b2.grown hG b2.size (fun k e => by cases e; exact Nat.le_succ _)))
  clear hJ2 hG b1 b2 hV hJ
  dsimp only [vbox] at hw
  go_enter Try.func8, Try.ntmps8
  go_wp2
  generalize (((w0.setCell ⟨W.heap.size + 1, 0, none⟩ (.int .i64 x)).setCell ⟨W.heap.size + 1, 1, none⟩ (.int .i64 y)).setCell ⟨W.heap.size + 1, 2, none⟩ (.int .u64 z)).setCell ⟨W.heap.size + 1, 3, none⟩ (.slice A n c) = w7 at *
  have z0 : w7.cell? ⟨W.heap.size + 1, 0, none⟩ = some (.int .i64 x) := blk_cell HJ.out.1 0
  have z1 : w7.cell? ⟨W.heap.size + 1, 1, none⟩ = some (.int .i64 y) := blk_cell HJ.out.1 1
  have z2 : w7.cell? ⟨W.heap.size + 1, 2, none⟩ = some (.int .u64 z) := blk_cell HJ.out.1 2
  have z3 : w7.cell? ⟨W.heap.size + 1, 3, none⟩ = some (.slice A n c) := blk_cell HJ.out.1 3
  exact bodyPost_ret (v := .agg #[.int .i64 x, .int .i64 y, .int .u64 z, .slice A n c]) (by simp [results, Try.results8, go_sem, z0, z1, z2, z3]) rfl ⟨rfl, HJ.out.2⟩
/-! ### append(append(l[:0:0], ..), ..) -/
theorem ap00 {d : World} {b : Addr} {A : Option Addr} {M : List Tb} {m : Nat} (hM : M.length = m) (hs : Reads KT d A M) (c : Nat) (hl : m ≤ 100000) :
    ∃ p k w, (∀ ty, (Builtin.append_ #[23, 23] ty #[.slice (some b) 0 0, .slice A m c]).run Try.prog d = .ok (.slice p m k) w) ∧ ((m = 0 ∧ p = some b ∧ k = 0 ∧ w = d) ∨ Rw.Own KT 42 w d.heap.size p k M) ∧ Below d.heap.size d w := by
  obtain ⟨i0, hi, hz0, hz1, hz2⟩ := info_parts info_tb
  subst hM
  by_cases h0 : M.length = 0
  · refine ⟨some b, 0, d, fun ty => ?_, .inl ⟨h0, rfl, rfl, rfl⟩, Below.refl _ _⟩
    rw [h0]
    cases A <;> simp [Builtin.append_, run_underlying Try.underlying23, sizeOf, typeInfo, hi, Builtin.lenOf, Builtin.firstCells, loadCells, loadCellsFrom, storeCells]
  · obtain ⟨g, o, rfl, hg, hc⟩ := hs (by omega)
    have hG := grownCap_ge d M.length 0 42
    have hG2 := grownCap_le_maxLen d M.length 0 42 (by unfold maxLen; omega)
    have key := fun ty => run_append_grow (P := Try.prog) d 23 ty 42 i0 _ Try.underlying23 hi hz0 b 0 0 [] (by simp) (by simp) ⟨g, o, none⟩ M.length c (M.flatMap KT.enc) (by rw [map_len, hz1]; rfl) (fun j u hu => by rw [add_o]; exact hc j u hu) (by omega) (by omega) (growslice_fits (by omega) (by rw [hz2]; omega))
    simp only [Nat.zero_add] at key
    refine ⟨_, _, _, key, .inr ?_, below_alloc (below_drew1 (Below.refl _ _)) _⟩
    refine Rw.Own.make (Nat.le_refl _) (heap_alloc_new d.drew _) hG hG2 ?_ ?_
    · simp only [Array.size_append, size_zeroCells, List.size_toArray, List.length_nil, map_len]
      show 0 + M.length * 5 + (grownCap d M.length 0 42 - M.length) * 5 = grownCap d M.length 0 42 * 5
      omega
    · simp only [Array.toList_append, List.nil_append]
      rw [List.take_append_of_le_length (by rw [map_len]; exact Nat.le_refl _), List.take_of_length_le (by rw [map_len]; exact Nat.le_refl _)]
theorem two_cut {w : World} {b : Addr} {A1 A2 : Option Addr} {L M : List Tb} {n m : Nat} (hL : L.length = n) (hM : M.length = m) (h1 : Reads KT w A1 L) (h2 : Reads KT w A2 M) (c1 c2 : Nat) (hl : n + m ≤ 1000) :
    ∃ p1 k1 w1 p2 k2 w2, (∀ ty, (Builtin.append_ #[23, 23] ty #[.slice (some b) 0 0, .slice A1 n c1]).run Try.prog w = .ok (.slice p1 n k1) w1) ∧
      (∀ ty, (Builtin.append_ #[23, 23] ty #[.slice p1 n k1, .slice A2 m c2]).run Try.prog w1 = .ok (.slice p2 (n + m) k2) w2) ∧ Below w.heap.size w w1 ∧ Below w.heap.size w w2 ∧ Reads KT w2 p2 (L ++ M) ∧ n + m ≤ k2 := by
  obtain ⟨p1, k1, w1, r1, o1, b1⟩ := ap00 (b := b) hL h1 c1 (by omega)
  rcases o1 with ⟨rfl, rfl, rfl, rfl⟩ | o1
  · obtain ⟨p2, k2, w2, r2, o2, b2⟩ := ap00 (b := b) hM h2 c2 (by omega)
    obtain rfl : L = [] := List.length_eq_zero_iff.1 hL
    refine ⟨_, _, _, p2, k2, w2, r1, fun ty => by rw [Nat.zero_add]; exact r2 ty, Below.refl _ _, b2, ?_, ?_⟩
    · rcases o2 with ⟨h0, _⟩ | o2
      · subst h0
        obtain rfl : M = [] := List.length_eq_zero_iff.1 hM
        exact Reads.nil _ _
      · exact o2.reads
    · rcases o2 with ⟨h0, _⟩ | o2
      · omega
      · have := o2.cap.1; omega
  · obtain ⟨p2, k2, w2, r2, o2, b2⟩ := ap1 hL hM o1 (h2.below b1) c2 (by omega) b1.size
    have := o2.cap.1
    rw [List.length_append] at this
    exact ⟨p1, k1, w1, p2, k2, w2, r1, r2, b1, b1.trans b2, o2.reads, by omega⟩
end Go.Proofs.Ytikhjnokfakgiaa.Pk
