/- slices.MinFunc over tables: walked. -/
import Derived.Test.YtikhjnokfakgiaaPkM
import Derived.Deep.RegionHeld3
set_option linter.unusedSimpArgs false
set_option linter.unusedVariables false
namespace Go.Proofs.Ytikhjnokfakgiaa.Pk
open Go.RowKit Go.Proofs.Ytikhjnokfakgiaa.PAll Go.Proofs.YtikhjnokfakgiaaW.PrintWords
attribute [local go_sem] put_fresh

theorem set_blk {w : World} {b j : Nat} {cs : Array Value} {t : TypeId} {fr : Nat × Nat} (v : Value) (h : w.heap[b]? = some (.cells cs t fr)) : (w.setCell ⟨b, j, none⟩ v).heap[b]? = some (.cells (cs.setIfInBounds j v) t fr) := by
  simp [World.setCell, Array.getElem?_modify, h]
theorem set_other {w : World} {b j k : Nat} (v : Value) (hne : b ≠ k) : (w.setCell ⟨b, j, none⟩ v).heap[k]? = w.heap[k]? := by
  simp [World.setCell, Array.getElem?_modify, hne]
/-- The box of the least one. -/
def MB (w wr : World) (y : Tb) : Prop := wr.heap[w.heap.size + 1]? = some (tbox y) ∧ wr.heap[w.heap.size]? = some (.cells #[.int .i64 0, .int .i64 0, .int .i64 0, .string ⟨#[]⟩, .string ⟨#[]⟩] 42 (0, 0)) ∧ Below w.heap.size w wr
theorem MB.step {w wr w' : World} {y : Tb} (h : MB w wr y) (hb : Below wr.heap.size wr w') : MB w w' y :=
  ⟨(hb.block _ (Array.getElem?_eq_some_iff.1 h.1).1).trans h.1, (hb.block _ (Array.getElem?_eq_some_iff.1 h.2.1).1).trans h.2.1, below_step h.2.2 hb⟩
theorem MB.drew {w wr : World} {y : Tb} (h : MB w wr y) : MB w wr.drew y := h.step (below_drew1 (Below.refl _ _))
set_option maxRecDepth 100000 in
set_option maxHeartbeats 4000000 in
theorem minf_c {w : World} {A : Option Addr} {c : Nat} {l : List Tb} (hr : Kd.C k42 w A l.length l) (hp : 0 < l.length) (hl : l.length < 1000000) :
    Calls Try.prog 23 #[.slice A l.length c, .func (.func 24) #[] #[]] w fun e w' => ∃ y : Tb, e = .returned (tval y) ∧ Below w.heap.size w w' := by
  obtain ⟨q, off, rfl, hq, hc⟩ := tb_row hr hp
  have HC := Aside0.mk (And.intro hq hc)
  obtain ⟨x0, hx0⟩ : ∃ x, l[0]? = some x := ⟨_, List.getElem?_eq_getElem hp⟩
  have hB0 := below_alloc (Below.refl w.heap.size w) (.cells #[.int .i64 0, .int .i64 0, .int .i64 0, .string ⟨#[]⟩, .string ⟨#[]⟩] 42)
  have hb := hB0.block q hq
  have y0 := (World.cell?_of_block (a := ⟨q, off + 0 * 5 + 0, none⟩) hb).trans (hc 0 x0 hx0 0 (by decide))
  have y1 := (World.cell?_of_block (a := ⟨q, off + 0 * 5 + 1, none⟩) hb).trans (hc 0 x0 hx0 1 (by decide))
  have y2 := (World.cell?_of_block (a := ⟨q, off + 0 * 5 + 2, none⟩) hb).trans (hc 0 x0 hx0 2 (by decide))
  have y3 := (World.cell?_of_block (a := ⟨q, off + 0 * 5 + 3, none⟩) hb).trans (hc 0 x0 hx0 3 (by decide))
  have y4 := (World.cell?_of_block (a := ⟨q, off + 0 * 5 + 4, none⟩) hb).trans (hc 0 x0 hx0 4 (by decide))
  simp only [tcells, Nat.zero_mul, Nat.add_zero, List.getElem?_cons_zero, List.getElem?_cons_succ] at y0 y1 y2 y3 y4
  have hpi : (0 : Int) < (l.length : Int) := by omega
  have hd : decide ((l.length : Int) < 1) = false := decide_eq_false (by omega)
  have hd' : decide (l.length < 1) = false := decide_eq_false (by omega)
  have hM : MB w ((w.alloc (.cells #[.int .i64 0, .int .i64 0, .int .i64 0, .string ⟨#[]⟩, .string ⟨#[]⟩] 42)).alloc (tbox x0)) x0 := by
    refine ⟨by have := heap_alloc_new (w.alloc (.cells #[.int .i64 0, .int .i64 0, .int .i64 0, .string ⟨#[]⟩, .string ⟨#[]⟩] 42)) (tbox x0); simpa using this, (heap_alloc_old _ _ (by simp)).trans (heap_alloc_new w _), below_alloc hB0 _⟩
  have HM := Aside0.mk hM
  clear hr hc hx0 hq hB0 hb hM
  go_enter Try.func23, Try.ntmps23
  go_wp2_with fail
  go_loopw [6] (fun i wr => ∃ (k : Nat) (y : Tb), 1 ≤ k ∧ k ≤ l.length ∧ i = .int .i64 k ∧ Aside0 (MB w wr y)) (fun i _ => l.length - (intOf i).toNat)
  case atStart => exact ⟨1, x0, Nat.le_refl _, hp, rfl, HM⟩
  case round =>
    obtain ⟨k, y, hk1, hk, rfl, H1⟩ := hrel
    by_cases hlt : k < l.length
    · obtain ⟨x, hx⟩ : ∃ x, l[k]? = some x := ⟨_, List.getElem?_eq_getElem hlt⟩
      have hwk := Aside0.mk (show wrap64 ((k : Int) + 1) = (k : Int) + 1 by unfold wrap64; omega)
      have LA := Aside0.mk (show ∀ w' : World, MB w w' y → w'.cell? ⟨q, off + k * 5, none⟩ = some (.int .i64 x.f0) ∧ w'.cell? ⟨q, off + k * 5 + 1, none⟩ = some (.int .i64 x.f1) ∧ w'.cell? ⟨q, off + k * 5 + 2, none⟩ = some (.int .i64 x.f2) ∧ w'.cell? ⟨q, off + k * 5 + 3, none⟩ = some (.string x.f3) ∧ w'.cell? ⟨q, off + k * 5 + 4, none⟩ = some (.string x.f4) ∧ w'.cell? ⟨w.heap.size + 1, 0, none⟩ = some (.int .i64 y.f0) ∧ w'.cell? ⟨w.heap.size + 1, 1, none⟩ = some (.int .i64 y.f1) ∧ w'.cell? ⟨w.heap.size + 1, 2, none⟩ = some (.int .i64 y.f2) ∧ w'.cell? ⟨w.heap.size + 1, 3, none⟩ = some (.string y.f3) ∧ w'.cell? ⟨w.heap.size + 1, 4, none⟩ = some (.string y.f4) ∧ Aside0 (MB w w' y) from fun w' h => by
        have hb := h.2.2.block q HC.out.1
        have key := fun i (hi : i < 5) => (World.cell?_of_block (a := ⟨q, off + k * 5 + i, none⟩) hb).trans (HC.out.2 k x hx i hi)
        exact ⟨key 0 (by decide), key 1 (by decide), key 2 (by decide), key 3 (by decide), key 4 (by decide), blk_cell h.1 0, blk_cell h.1 1, blk_cell h.1 2, blk_cell h.1 3, blk_cell h.1 4, ⟨h⟩⟩)
      obtain ⟨r, hr⟩ := less_c x y
      have HR := Aside0.mk hr
      clear hr hx y0 y1 y2 y3 y4
      go_upto_region 7 with (fail)
      go_region_held3 (fun w' => w'.cell? ⟨q, off + k * 5, none⟩ = some (.int .i64 x.f0) ∧ w'.cell? ⟨q, off + k * 5 + 1, none⟩ = some (.int .i64 x.f1) ∧ w'.cell? ⟨q, off + k * 5 + 2, none⟩ = some (.int .i64 x.f2) ∧ w'.cell? ⟨q, off + k * 5 + 3, none⟩ = some (.string x.f3) ∧ w'.cell? ⟨q, off + k * 5 + 4, none⟩ = some (.string x.f4) ∧ w'.cell? ⟨w.heap.size + 1, 0, none⟩ = some (.int .i64 y.f0) ∧ w'.cell? ⟨w.heap.size + 1, 1, none⟩ = some (.int .i64 y.f1) ∧ w'.cell? ⟨w.heap.size + 1, 2, none⟩ = some (.int .i64 y.f2) ∧ w'.cell? ⟨w.heap.size + 1, 3, none⟩ = some (.string y.f3) ∧ w'.cell? ⟨w.heap.size + 1, 4, none⟩ = some (.string y.f4) ∧ Aside0 (MB w w' y))
        (first
          | exact LA.out _ (MB.drew H1.out)
          | (go_split_ands
             first
             | (refine LA.out _ (Aside0.out ?_); assumption)
             | (refine LA.out _ (MB.drew (Aside0.out ?_)); assumption)
             | (refine LA.out _ (MB.step (Aside0.out ?_) hb5); assumption)))
        (first
          | (go_at_call 24; refine (HR.out _).mono ?_; rintro e w5 ⟨rfl, hb5⟩))
      all_goals
        go_split_ands
        have hM5 : Aside0 (MB w w5 y) := by assumption
        by_cases hr0 : r < 0
        · have hd2 : decide (r < 0) = true := decide_eq_true hr0
          have hm5 : w5.heap[w.heap.size + 1]? = some (.cells #[.int .i64 y.f0, .int .i64 y.f1, .int .i64 y.f2, .string y.f3, .string y.f4] 42 (0, 0)) := hM5.out.1
          have sc0 : w5.cell? ⟨w.heap.size + 1, 0, none⟩ = some (.int .i64 y.f0) := blk_cell hm5 0
          have sf0 : w5.frozen? ⟨w.heap.size + 1, 0, none⟩ = false := blk_frozen hm5 0
          have sz1 := set_blk (j := 0) (.int .i64 x.f0) hm5
          have sc1 : (w5.setCell ⟨w.heap.size + 1, 0, none⟩ (.int .i64 x.f0)).cell? ⟨w.heap.size + 1, 1, none⟩ = some (.int .i64 y.f1) := blk_cell sz1 1
          have sf1 : (w5.setCell ⟨w.heap.size + 1, 0, none⟩ (.int .i64 x.f0)).frozen? ⟨w.heap.size + 1, 1, none⟩ = false := blk_frozen sz1 1
          have sz2 := set_blk (j := 1) (.int .i64 x.f1) sz1
          have sc2 : ((w5.setCell ⟨w.heap.size + 1, 0, none⟩ (.int .i64 x.f0)).setCell ⟨w.heap.size + 1, 1, none⟩ (.int .i64 x.f1)).cell? ⟨w.heap.size + 1, 2, none⟩ = some (.int .i64 y.f2) := blk_cell sz2 2
          have sf2 : ((w5.setCell ⟨w.heap.size + 1, 0, none⟩ (.int .i64 x.f0)).setCell ⟨w.heap.size + 1, 1, none⟩ (.int .i64 x.f1)).frozen? ⟨w.heap.size + 1, 2, none⟩ = false := blk_frozen sz2 2
          have sz3 := set_blk (j := 2) (.int .i64 x.f2) sz2
          have sc3 : (((w5.setCell ⟨w.heap.size + 1, 0, none⟩ (.int .i64 x.f0)).setCell ⟨w.heap.size + 1, 1, none⟩ (.int .i64 x.f1)).setCell ⟨w.heap.size + 1, 2, none⟩ (.int .i64 x.f2)).cell? ⟨w.heap.size + 1, 3, none⟩ = some (.string y.f3) := blk_cell sz3 3
          have sf3 : (((w5.setCell ⟨w.heap.size + 1, 0, none⟩ (.int .i64 x.f0)).setCell ⟨w.heap.size + 1, 1, none⟩ (.int .i64 x.f1)).setCell ⟨w.heap.size + 1, 2, none⟩ (.int .i64 x.f2)).frozen? ⟨w.heap.size + 1, 3, none⟩ = false := blk_frozen sz3 3
          have sz4 := set_blk (j := 3) (.string x.f3) sz3
          have sc4 : ((((w5.setCell ⟨w.heap.size + 1, 0, none⟩ (.int .i64 x.f0)).setCell ⟨w.heap.size + 1, 1, none⟩ (.int .i64 x.f1)).setCell ⟨w.heap.size + 1, 2, none⟩ (.int .i64 x.f2)).setCell ⟨w.heap.size + 1, 3, none⟩ (.string x.f3)).cell? ⟨w.heap.size + 1, 4, none⟩ = some (.string y.f4) := blk_cell sz4 4
          have sf4 : ((((w5.setCell ⟨w.heap.size + 1, 0, none⟩ (.int .i64 x.f0)).setCell ⟨w.heap.size + 1, 1, none⟩ (.int .i64 x.f1)).setCell ⟨w.heap.size + 1, 2, none⟩ (.int .i64 x.f2)).setCell ⟨w.heap.size + 1, 3, none⟩ (.string x.f3)).frozen? ⟨w.heap.size + 1, 4, none⟩ = false := blk_frozen sz4 4
          have sz5 := set_blk (j := 4) (.string x.f4) sz4
          have HZ := Aside0.mk sz5
          have key : ∀ j, w.heap.size + 1 ≠ j → (((((w5.setCell ⟨w.heap.size + 1, 0, none⟩ (.int .i64 x.f0)).setCell ⟨w.heap.size + 1, 1, none⟩ (.int .i64 x.f1)).setCell ⟨w.heap.size + 1, 2, none⟩ (.int .i64 x.f2)).setCell ⟨w.heap.size + 1, 3, none⟩ (.string x.f3)).setCell ⟨w.heap.size + 1, 4, none⟩ (.string x.f4)).heap[j]? = w5.heap[j]? := fun j hne => (set_other _ hne).trans ((set_other _ hne).trans ((set_other _ hne).trans ((set_other _ hne).trans (set_other _ hne))))
          have hMx : MB w (((((w5.setCell ⟨w.heap.size + 1, 0, none⟩ (.int .i64 x.f0)).setCell ⟨w.heap.size + 1, 1, none⟩ (.int .i64 x.f1)).setCell ⟨w.heap.size + 1, 2, none⟩ (.int .i64 x.f2)).setCell ⟨w.heap.size + 1, 3, none⟩ (.string x.f3)).setCell ⟨w.heap.size + 1, 4, none⟩ (.string x.f4)) x := ⟨HZ.out.trans rfl, (key _ (by omega)).trans hM5.out.2.1, ⟨hM5.out.2.2.os, hM5.out.2.2.tape, hM5.out.2.2.output, by have := hM5.out.2.2.size; simpa using this, fun j hj => (key j (by omega)).trans (hM5.out.2.2.block j hj)⟩⟩
          have HX := Aside0.mk hMx
          clear key hMx hm5 sz1 sz2 sz3 sz4 sz5 HR LA
          go_wp2_with fail
          exact ⟨⟨k + 1, x, by omega, Nat.succ_le_of_lt hlt, by first | exact iw_succ k | exact iv_succ hwk.out, HX⟩, by first | exact iw_meas hlt | exact iv_meas hwk.out hlt⟩
        · have hd2 : decide (r < 0) = false := decide_eq_false hr0
          clear HR LA
          go_wp2_with fail
          exact ⟨⟨k + 1, y, by omega, Nat.succ_le_of_lt hlt, by first | exact iw_succ k | exact iv_succ hwk.out, hM5⟩, by first | exact iw_meas hlt | exact iv_meas hwk.out hlt⟩
    · have hkl : k = l.length := by omega
      subst hkl
      have hd1 : decide ((l.length : Int) < (l.length : Int)) = false := decide_eq_false (Int.lt_irrefl _)
      have m0 := blk_cell H1.out.1 0
      have m1 := blk_cell H1.out.1 1
      have m2 := blk_cell H1.out.1 2
      have m3 := blk_cell H1.out.1 3
      have m4 := blk_cell H1.out.1 4
      simp only [List.getElem?_toArray, List.getElem?_cons_zero, List.getElem?_cons_succ] at m0 m1 m2 m3 m4
      have hq0 := H1.out.2.1
      have ec0 : wr.cell? ⟨w.heap.size, 0, none⟩ = some (.int .i64 0) := blk_cell hq0 0
      have ef0 : wr.frozen? ⟨w.heap.size, 0, none⟩ = false := blk_frozen hq0 0
      have ez1 := set_blk (j := 0) (.int .i64 y.f0) hq0
      have ec1 : (wr.setCell ⟨w.heap.size, 0, none⟩ (.int .i64 y.f0)).cell? ⟨w.heap.size, 1, none⟩ = some (.int .i64 0) := blk_cell ez1 1
      have ef1 : (wr.setCell ⟨w.heap.size, 0, none⟩ (.int .i64 y.f0)).frozen? ⟨w.heap.size, 1, none⟩ = false := blk_frozen ez1 1
      have ez2 := set_blk (j := 1) (.int .i64 y.f1) ez1
      have ec2 : ((wr.setCell ⟨w.heap.size, 0, none⟩ (.int .i64 y.f0)).setCell ⟨w.heap.size, 1, none⟩ (.int .i64 y.f1)).cell? ⟨w.heap.size, 2, none⟩ = some (.int .i64 0) := blk_cell ez2 2
      have ef2 : ((wr.setCell ⟨w.heap.size, 0, none⟩ (.int .i64 y.f0)).setCell ⟨w.heap.size, 1, none⟩ (.int .i64 y.f1)).frozen? ⟨w.heap.size, 2, none⟩ = false := blk_frozen ez2 2
      have ez3 := set_blk (j := 2) (.int .i64 y.f2) ez2
      have ec3 : (((wr.setCell ⟨w.heap.size, 0, none⟩ (.int .i64 y.f0)).setCell ⟨w.heap.size, 1, none⟩ (.int .i64 y.f1)).setCell ⟨w.heap.size, 2, none⟩ (.int .i64 y.f2)).cell? ⟨w.heap.size, 3, none⟩ = some (.string ⟨#[]⟩) := blk_cell ez3 3
      have ef3 : (((wr.setCell ⟨w.heap.size, 0, none⟩ (.int .i64 y.f0)).setCell ⟨w.heap.size, 1, none⟩ (.int .i64 y.f1)).setCell ⟨w.heap.size, 2, none⟩ (.int .i64 y.f2)).frozen? ⟨w.heap.size, 3, none⟩ = false := blk_frozen ez3 3
      have ez4 := set_blk (j := 3) (.string y.f3) ez3
      have ec4 : ((((wr.setCell ⟨w.heap.size, 0, none⟩ (.int .i64 y.f0)).setCell ⟨w.heap.size, 1, none⟩ (.int .i64 y.f1)).setCell ⟨w.heap.size, 2, none⟩ (.int .i64 y.f2)).setCell ⟨w.heap.size, 3, none⟩ (.string y.f3)).cell? ⟨w.heap.size, 4, none⟩ = some (.string ⟨#[]⟩) := blk_cell ez4 4
      have ef4 : ((((wr.setCell ⟨w.heap.size, 0, none⟩ (.int .i64 y.f0)).setCell ⟨w.heap.size, 1, none⟩ (.int .i64 y.f1)).setCell ⟨w.heap.size, 2, none⟩ (.int .i64 y.f2)).setCell ⟨w.heap.size, 3, none⟩ (.string y.f3)).frozen? ⟨w.heap.size, 4, none⟩ = false := blk_frozen ez4 4
      have ez5 := set_blk (j := 4) (.string y.f4) ez4
      have HZ := Aside0.mk ez5
      clear hq0 ez1 ez2 ez3 ez4 ez5 y0 y1 y2 y3 y4
      go_wp2
      have z0 := blk_cell HZ.out 0
      have z1 := blk_cell HZ.out 1
      have z2 := blk_cell HZ.out 2
      have z3 := blk_cell HZ.out 3
      have z4 := blk_cell HZ.out 4
      have hbl : Below w.heap.size w (((((wr.setCell ⟨w.heap.size, 0, none⟩ (.int .i64 y.f0)).setCell ⟨w.heap.size, 1, none⟩ (.int .i64 y.f1)).setCell ⟨w.heap.size, 2, none⟩ (.int .i64 y.f2)).setCell ⟨w.heap.size, 3, none⟩ (.string y.f3)).setCell ⟨w.heap.size, 4, none⟩ (.string y.f4)) := ⟨H1.out.2.2.os, H1.out.2.2.tape, H1.out.2.2.output, by have := H1.out.2.2.size; simpa using this, fun j hj => by
        have hne : w.heap.size ≠ j := by omega
        exact ((set_other _ hne).trans ((set_other _ hne).trans ((set_other _ hne).trans ((set_other _ hne).trans (set_other _ hne))))).trans (H1.out.2.2.block j hj)⟩
      generalize (((((wr.setCell ⟨w.heap.size, 0, none⟩ (.int .i64 y.f0)).setCell ⟨w.heap.size, 1, none⟩ (.int .i64 y.f1)).setCell ⟨w.heap.size, 2, none⟩ (.int .i64 y.f2)).setCell ⟨w.heap.size, 3, none⟩ (.string y.f3)).setCell ⟨w.heap.size, 4, none⟩ (.string y.f4)) = w7 at *
      simp at z0 z1 z2 z3 z4
      exact bodyPost_ret (v := tval y) (by simp [results, Try.results23, go_sem, z0, z1, z2, z3, z4]) rfl ⟨y, rfl, hbl⟩
end Go.Proofs.Ytikhjnokfakgiaa.Pk
