/- pick.Of's comparison: walked. -/
import Derived.Test.YtikhjnokfakgiaaPkW
import Derived.Test.YtikhjnokfakgiaaPAllx6
set_option linter.unusedSimpArgs false
set_option linter.unusedVariables false
namespace Go.Proofs.Ytikhjnokfakgiaa.Pk
open Go.RowKit Go.Proofs.Ytikhjnokfakgiaa.PAll Go.Proofs.YtikhjnokfakgiaaW.PrintWords
attribute [local go_sem] put_fresh

abbrev tval (x : Tb) : Value := .agg #[.int .i64 x.f0, .int .i64 x.f1, .int .i64 x.f2, .string x.f3, .string x.f4]
abbrev tbox (x : Tb) : Obj := .cells #[.int .i64 x.f0, .int .i64 x.f1, .int .i64 x.f2, .string x.f3, .string x.f4] 42
theorem cmp_ev (a b : Int) : ∃ r, ∀ w, Calls Try.prog 25 #[.int .i64 a, .int .i64 b] w fun e w' => e = .returned (.int .i64 r) ∧ Below w.heap.size w w' := by
  have h : ∃ r, cmp_Compare_int.f a b = some r := by
    unfold cmp_Compare_int.f
    by_cases c1 : a < b
    · simp [cmp_isNaN_int.f, c1]
    · by_cases c2 : b < a
      · simp [cmp_isNaN_int.f, c1, c2]
      · simp [cmp_isNaN_int.f, c1, c2]
  obtain ⟨r, h⟩ := h
  exact ⟨r, fun w => (cmp_Compare_int.calls a b r w h).mono fun e w' h => by
    first
      | exact h
      | exact ⟨h.1, h.2.below⟩⟩
set_option maxRecDepth 100000 in
set_option maxHeartbeats 4000000 in
theorem less_c (x y : Tb) : ∃ r, ∀ w : World, Calls Try.prog 24 #[tval x, tval y] w fun e w' => e = .returned (.int .i64 r) ∧ Below w.heap.size w w' := by
  obtain ⟨r, hr⟩ := cmp_ev x.f0 y.f0
  refine ⟨r, fun w => ?_⟩
  have b2 : Below w.heap.size w ((w.alloc (tbox x)).alloc (tbox y)).drew := below_drew1 (below_alloc (below_alloc (Below.refl _ _) _) _)
  have HR := Aside0.mk hr
  clear hr
  have hx : ((w.alloc (tbox x)).alloc (tbox y)).heap[w.heap.size]? = some (tbox x) := (heap_alloc_old _ _ (by simp)).trans (heap_alloc_new w (tbox x))
  have hy : ((w.alloc (tbox x)).alloc (tbox y)).heap[w.heap.size + 1]? = some (tbox y) := by have := heap_alloc_new (w.alloc (tbox x)) (tbox y); simpa using this
  dsimp only [tbox] at hx hy b2
  have x0 : ((w.alloc (.cells #[.int .i64 x.f0, .int .i64 x.f1, .int .i64 x.f2, .string x.f3, .string x.f4] 42)).alloc (.cells #[.int .i64 y.f0, .int .i64 y.f1, .int .i64 y.f2, .string y.f3, .string y.f4] 42)).cell? ⟨w.heap.size, 0, none⟩ = some (.int .i64 x.f0) := blk_cell hx 0
  have y0 : ((w.alloc (.cells #[.int .i64 x.f0, .int .i64 x.f1, .int .i64 x.f2, .string x.f3, .string x.f4] 42)).alloc (.cells #[.int .i64 y.f0, .int .i64 y.f1, .int .i64 y.f2, .string y.f3, .string y.f4] 42)).cell? ⟨w.heap.size + 1, 0, none⟩ = some (.int .i64 y.f0) := blk_cell hy 0
  have HB := Aside0.mk (below_alloc (below_alloc (Below.refl w.heap.size w) (tbox x)) (tbox y))
  clear hx hy b2
  go_enter Try.func24, Try.ntmps24
  go_wp2_with fail
  refine (HR.out _).mono ?_
  rintro e w5 ⟨rfl, hb5⟩
  have H5 := Aside0.mk (below_step HB.out hb5)
  clear hb5
  go_wp2
  go_ret
  exact ⟨rfl, H5.out⟩
end Go.Proofs.Ytikhjnokfakgiaa.Pk
