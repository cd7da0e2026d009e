/- The keys of a set of dots, collected: maps.Keys, slices.Collect. -/
import Derived.RangeFuncBox
import Derived.RangeFuncLeaves
import Derived.RangeFuncNested
import Derived.RangeFuncGives
import Derived.RangeFuncStops
import Derived.Shelf.Abstract
import Derived.WalkKit
import Derived.OwnWalkIn
import Derived.TacticsInMore
import Derived.LoopNIn
import Derived.LoopIn
import Derived.Maps.AppendAt
import Derived.Sort.MapsRangeIn
import Derived.Sort.KeysCollected
import Derived.Test.YthljboogcjpgiaaDotW
set_option linter.unusedSimpArgs false
set_option linter.unusedVariables false
namespace Go.Proofs.Ythljboogcjpgiaa.Ds
open Go.RowKit Go.Maps Go.Shelf Go.Sort Go.Proofs Go.Proofs.Ythljboogcjpgiaa.PAll Go.Proofs.YthljboogcjpgiaaW.PrintWords
attribute [local go_sem] Oper.semAt_some

theorem put_fresh {w : World} {t : TypeId} {cs : Array Value} (j : Nat) (v : Value) : (w.alloc (.cells cs t)).setCell ⟨w.heap.size, j, none⟩ v = w.alloc (.cells (cs.setIfInBounds j v) t) := by
  have e : ∀ h : Array Obj, h.size = w.heap.size → (h.push (.cells cs t)).modify w.heap.size (fun o => match o with | .cells c ty fr => .cells (c.setIfInBounds j v) ty fr | o => o) = h.push (.cells (cs.setIfInBounds j v) t) := by
    intro h hs
    apply Array.ext
    · simp
    · intro i h1 h2
      by_cases hi : i = w.heap.size
      · subst hi
        simp [Array.getElem_modify, ← hs]
      · have : i < h.size := by simp at h2; omega
        simp [Array.getElem_modify, Array.getElem_push, this, Ne.symm hi]
  simp only [World.setCell, World.alloc]
  congr 1
  exact e w.heap rfl
attribute [local go_sem] put_fresh
theorem cells_fresh (w : World) (t : TypeId) (cs : Array Value) (j : Nat) : (w.alloc (.cells cs t)).cell? ⟨w.heap.size, j, none⟩ = cs[j]? := blk_cell (heap_alloc_new w _) j
theorem frozen_fresh (w : World) (t : TypeId) (cs : Array Value) (j : Nat) : (w.alloc (.cells cs t)).frozen? ⟨w.heap.size, j, none⟩ = false := blk_frozen (heap_alloc_new w _) j

/-- What has come of a map's keys. -/
def Col {H : Type} (D0 : DataW H) (left : Lit → Bool) (ss : List Vd) : Prop := ss.Nodup ∧ ∀ x, x ∈ ss ↔ (has D0 (.string (kb x)) = true ∧ left (.string (kb x)) = false)
theorem Col.start {H : Type} (D0 : DataW H) : Col D0 (has D0) [] := ⟨List.nodup_nil, fun x => by cases has D0 (.string (kb x)) <;> simp⟩
theorem Col.step {H : Type} {D0 : DataW H} {left : Lit → Bool} {ss : List Vd} (h : Col D0 left ss) {x : Vd} {y : DataW H} (hlk : left (.string (kb x)) = true) (hat : ∀ zd, D0.atKey (.string (kb x)) zd = y) : Col D0 (fun z => left z && !z.sameKey (.string (kb x))) (ss ++ [x]) := by
  have hhas : has D0 (.string (kb x)) = true := has_true_of_atKey hat
  have hnew : x ∉ ss := fun hx => by have := ((h.2 x).1 hx).2; rw [hlk] at this; cases this
  refine ⟨List.nodup_append.2 ⟨h.1, by simp, fun a ha b hb => by simp at hb; subst hb; exact fun e => hnew (e ▸ ha)⟩, fun y => ?_⟩
  by_cases hy : y = x
  · subst hy; simp [hhas, Lit.sameKey]
  · have hk : ¬ kb y = kb x := fun e => hy (kb_inj e)
    simp [h.2 y, hy, hk, Lit.sameKey]
/-- All keys of a map. -/
def All {H : Type} (D0 : DataW H) (ss : List Vd) : Prop := ss.Nodup ∧ (∀ x, x ∈ ss ↔ has D0 (.string (kb x)) = true) ∧ ss.length ≤ Maps.size D0

set_option maxRecDepth 100000 in
set_option maxHeartbeats 2000000 in
theorem keys_in {H : Type} (F : Fence) (n : Nat) (hF : F.fn 44) (hro : F.round = none) (hn : 1 ≤ n) (l Bm b nn : Nat) (D0 : DataW H) (J Jx : List Vd → World → Prop)
    (hY : ∀ pre x W, J pre W → pre.length < Maps.size D0 → YieldAt F (n - 1) Try.prog l #[vval x] W fun e W' => (e = .returned (.bool true) ∧ J (pre ++ [x]) W' ∧ KeepsWalks W W') ∨ (e = .returned (.bool false) ∧ Jx (pre ++ [x]) W'))
    (W : World) (hJ : AbidesFrom W.heap.size J) (hm : W.cell? ⟨Bm, 0, none⟩ = some (.map (some b))) (hown : W.ownsMap Try.prog 26 unitElem b nn D0) (h0 : J [] W) :
    CallsIn F n Try.prog 44 #[.func (.yield l) #[] #[], .pointer (some ⟨Bm, 0, none⟩)] W fun e W' => (∃ v, e = .returned v) ∧ ((∃ ss, All D0 ss ∧ J ss W') ∨ (∃ pre, True ∧ Jx pre W')) := by
  refine callsIn_of_wp Try.func44 rfl hF ?_ hro
  simp only [Try.ntmps44, List.size_toArray, List.length_cons, List.length_nil, Nat.reduceAdd, Nat.reduceSub, Array.replicate_succ, Array.replicate_zero, List.push_toArray, List.append_toArray, List.nil_append, List.cons_append]
  gi_wp2_with (first
    | (gi_at_range; refine wpListIn_range_own _ rfl _ 64 rfl 26 71 dkeyed Try.underlying64 _ b nn _ rfl hown ?_; intro w0 hrg0 hg0 hs0)
    | gi_in)
  go_frame
  gi_loopw [6] (fun _ wr => ∃ (left : Lit → Bool) (cnt : Nat) (ss : List Vd), wr.ranges Try.prog 26 unitElem b W.heap.size nn D0 left cnt ∧ ss.length + cnt ≤ Maps.size D0 ∧ Col D0 left ss ∧ J ss wr)
    (fun _ wr => wr.rangeLeft b W.heap.size)
  case atStart =>
    exact ⟨_, _, [], hrg0, by simp, Col.start D0, hJ [] W w0 none h0 hg0 (fun r e => by cases e)⟩
  case round =>
    obtain ⟨left, cnt, ss, hrg, hcs, hC, hJs⟩ := hrel
    gi_wp2_with (first
      | (gi_at_next; refine wpListIn_next_ranges _ rfl _ rfl 26 dkeyed unitElem vval id (fun key kl hk => by obtain ⟨x, hx, _⟩ := keyOf_dot_inv hk; exact ⟨x, hx⟩) (fun v _ _ => ⟨v, rfl⟩) b W.heap.size nn _ _ _ rfl hrg ?_ ?_)
      | gi_in)
    · intro hc0 hl0
      gi_wp2
      go_end0
      exact ⟨⟨_, rfl⟩, .inl ⟨ss, ⟨hC.1, fun x => by rw [hC.2 x, hl0]; simp, by omega⟩, hJs⟩⟩
    · intro x c kl yd yp w2 cnt2 hkey hlk hv hat hrg2 hlt hg2 hs2 hen
      obtain ⟨x', ex, rfl⟩ := keyOf_dot_inv hkey
      obtain rfl : x = x' := vval_inj ex
      have hJ2 : J ss w2 := hJ ss wr w2 (some W.heap.size) hJs hg2 (fun r e => by cases e; exact ⟨Nat.le_refl _, hrg.iter_walk⟩)
      have hJ3 : J ss (w2.alloc (.cells (venc x).toArray 26)) := hJ ss w2 _ none hJ2 (World.grownBy_alloc _ _ none) (fun r e => by cases e)
      have hc0 : (w2.alloc (.cells (venc x).toArray 26)).cell? ⟨w2.heap.size, 0, none⟩ = some (.int .u8 x.1.f0.f0) := cells_fresh _ _ _ 0
      have hc1 : (w2.alloc (.cells (venc x).toArray 26)).cell? ⟨w2.heap.size, 1, none⟩ = some (.int .u8 x.1.f0.f1) := cells_fresh _ _ _ 1
      have hc2 : (w2.alloc (.cells (venc x).toArray 26)).cell? ⟨w2.heap.size, 2, none⟩ = some (.int .u8 x.1.f0.f2) := cells_fresh _ _ _ 2
      have hc3 : (w2.alloc (.cells (venc x).toArray 26)).cell? ⟨w2.heap.size, 3, none⟩ = some (.int .u8 x.1.f0.f3) := cells_fresh _ _ _ 3
      have hc4 : (w2.alloc (.cells (venc x).toArray 26)).cell? ⟨w2.heap.size, 4, none⟩ = some (.int .u64 x.1.f1) := cells_fresh _ _ _ 4
      obtain ⟨fn, tmps, assign, body, hy, hR⟩ := hY ss x _ hJ3 (by omega)
      have hrg3 := hrg2.of_walks (KeepsWalks.alloc w2 (.cells (venc x).toArray 26))
      clear hs2
      simp only [vval, venc, dcells] at hen hy hR hc0 hc1 hc2 hc3 hc4
      gi_wp2
      refine hR.mono ?_
      have hC2 := hC.step hlk hat
      rintro e W3 (⟨rfl, hJ4, hk3⟩ | ⟨rfl, hJx3⟩)
      · gi_wp2
        have hrg4 := hrg3.of_walks hk3
        go_roundw
        case rel => exact ⟨_, cnt2, ss ++ [x], hrg4, by simp; omega, hC2, hJ4⟩
        case measure => rw [hrg4.left_eq, hrg.left_eq]; exact hlt
      · gi_wp2
        refine bodyPost_ret (results_none rfl _ _ _) rfl ?_
        exact ⟨⟨_, rfl⟩, .inr ⟨ss ++ [x], trivial, hJx3⟩⟩
theorem keys_stops {H : Type} (F : Fence) (n : Nat) (hF : F.fn 44) (hro : F.round = none) (hn : 1 ≤ n) (Bm b nn : Nat) (D0 : DataW H) (w : World) (hBm : Bm < w.heap.size)
    (hm : w.cell? ⟨Bm, 0, none⟩ = some (.map (some b))) (hown : w.ownsMap Try.prog 26 unitElem b nn D0) :
    SeqStopsK F n Try.prog 44 #[.pointer (some ⟨Bm, 0, none⟩)] (fun x : Vd => #[vval x]) KeepsWalks (All D0) (fun _ => True) (Maps.size D0) w := fun l J Jx W hW hJ _ hY h0 => by
  have hown' : W.ownsMap Try.prog 26 unitElem b nn D0 := by
    have hbl := hown.lt
    obtain ⟨es, clock, hb, Ft, hs, hD⟩ := hown
    exact ⟨es, clock, (hW.block b hbl).trans hb, Ft, hs, hD⟩
  exact keys_in F n hF hro hn l Bm b nn D0 J Jx hY W hJ ((hW.cell (p := ⟨Bm, 0, none⟩) hBm).trans hm) hown' h0
theorem info_dot : (Try.prog.info? 26).map (fun i => (i.zero, i.size, i.bytes)) = some (some (.agg #[.int .u8 0, .int .u8 0, .int .u8 0, .int .u8 0, .int .u64 0]), 5, 16) := by kernel_rfl

set_option maxRecDepth 100000 in
set_option maxHeartbeats 4000000 in
/-- slices.AppendSeq(nil, seq), at dots. -/
theorem appendSeq_in (F : Fence) (n : Nat) (hF : F.fn 46) (hro : F.round = none) (hn : 2 ≤ n) (g : Nat) (lb : Array Value) (hFg : F.fn g) (eg : ∀ args w, (callFunc g args).run Try.prog w = .ok (.enter g args) w)
    (S Sp : List Vd → Prop) (N : Nat) (hN : N ≤ maxLen) (hNb : N * 16 ≤ 140737488355328) (w : World) (hseq : SeqStopsK F (n - 1) Try.prog g lb (fun x : Vd => #[vval x]) KeepsWalks S Sp N w) :
    CallsIn F n Try.prog 46 #[.slice none 0 0, .func (.func g) #[] lb] w fun e w' => ∃ (v : Value) (ss : List Vd), e = .returned v ∧ S ss ∧ w'.ownsRow w.heap.size 26 5 v ss.length (ss.flatMap venc) ∧ (v = .slice none 0 0 ↔ ss = []) ∧ Below w.heap.size w w' := by
  have h1 : 1 ≤ n := by omega
  obtain ⟨i0, hi, hz0, hz1, hz2⟩ := info_parts info_dot
  refine callsIn_of_wp_marks Try.func46 rfl hF ?_ hro
  simp only [Try.ntmps46, List.size_toArray, List.length_cons, List.length_nil, Nat.reduceAdd, Nat.reduceSub, Array.replicate_succ, Array.replicate_zero, List.push_toArray, List.append_toArray, List.nil_append, List.cons_append]
  gi_wp2
  have bO := Boxed.new w 39 (.slice none 0 0)
  have hB0 : Below w.heap.size w (w.alloc (.cells #[.slice none 0 0] 39)) := (Below.refl _ w).alloc (Nat.le_refl _) _
  refine wpIn_rangeFunc_ownH hro h1 (gf := g) (lb := lb) rfl hFg eg hseq walksK_t walksK_b hB0 (fun _ => rfl)
    (fun pre W => (∃ v, Boxed W w.heap.size 39 v ∧ W.ownsRow w.heap.size 26 5 v pre.length (pre.flatMap venc) ∧ (v = .slice none 0 0 ↔ pre = [])) ∧ Below w.heap.size w W)
    (fun _ _ _ => False)
    (OwnFrom.and (Own.from (holdsRow_own w.heap.size w.heap.size 39 26 5 (fun pre : List Vd => pre.length) (fun pre => pre.flatMap venc) (fun pre v => v = .slice none 0 0 ↔ pre = [])) _) (ownFrom_below (Nat.le_refl _) (by simp)))
    (fun _ _ _ _ _ hs _ _ => hs)
    ⟨⟨_, bO, World.ownsRow_nil _ _ _ _, by simp⟩, hB0⟩
    (fun x a' W => ∃ Bx, w.heap.size < Bx ∧ W.heap[Bx]? = some (.cells (venc x).toArray 26 (0, 0)) ∧ a' = { tmps := #[.slice none 0 0, .func (.func g) #[] lb, .pointer (some ⟨w.heap.size, 0, none⟩), undef, .slice none 0 0, .pointer (some ⟨Bx, 0, none⟩), .func (.func g) #[] lb, vval x, undef, undef, undef, undef, undef], defers := [] })
    (fun x a' s A B row ⟨Bx, h1, h2, h3⟩ hg hr => ⟨Bx, h1, (hg.block Bx (Array.getElem?_eq_some_iff.1 h2).1 (fun e => by obtain ⟨_, o, ho, hc⟩ := hr Bx e.symm; rw [h2] at ho; cases ho; cases hc)).trans h2, h3⟩) ?assign ?body ?done ?stop
  case assign =>
    intro l pre x W K hi hK
    simp only [vval, venc, dcells] at hK ⊢
    gi_wp2
    refine hK _ _ ((KeepsOthers.alloc _ _).from _) (KeepsWalks.alloc _ _) ?_ ⟨W.heap.size, ?_, World.alloc_heap_new _ _, rfl⟩
    · obtain ⟨⟨v, hv, hrow, hnil⟩, hB⟩ := hi
      exact ⟨⟨v, hv.alloc _, hrow.alloc _, hnil⟩, hB.alloc hB.size _⟩
    · obtain ⟨⟨v, hv, hrow, hnil⟩, hB⟩ := hi
      exact hv.lt
  case body =>
    rintro l pre x a' W hl ⟨r, hr⟩ ⟨⟨v, hv, hrow, hnil⟩, hB⟩ ⟨Bx, hBx, bX, rfl⟩ hlt
    have hc := hv.cell
    have hc0 : W.cell? ⟨Bx, 0, none⟩ = some (.int .u8 x.1.f0.f0) := blk_cell bX 0
    have hc1 : W.cell? ⟨Bx, 1, none⟩ = some (.int .u8 x.1.f0.f1) := blk_cell bX 1
    have hc2 : W.cell? ⟨Bx, 2, none⟩ = some (.int .u8 x.1.f0.f2) := blk_cell bX 2
    have hc3 : W.cell? ⟨Bx, 3, none⟩ = some (.int .u8 x.1.f0.f3) := blk_cell bX 3
    have hc4 : W.cell? ⟨Bx, 4, none⟩ = some (.int .u64 x.1.f1) := blk_cell bX 4
    simp only [vval, venc, dcells]
    have hcx : ∀ j u, (venc x)[j]? = some u → (W.alloc (.cells #[.int .u8 x.v.f0.f0, .int .u8 x.v.f0.f1, .int .u8 x.v.f0.f2, .int .u8 x.v.f0.f3, .int .u64 x.v.f1] 26)).cell? ((⟨W.heap.size, 0, none⟩ : Addr).add j) = some u := fun j u hj => by
      simp only [add_plain, Nat.zero_add]
      refine (cells_fresh W _ _ j).trans ?_
      show (venc x).toArray[j]? = some u
      simpa using hj
    gi_wp2_with (gi_at_builtin; refine wpListIn_append_own _ rfl _ _ 39 rfl w.heap.size 26 i0 (.agg #[.int .u8 0, .int .u8 0, .int .u8 0, .int .u8 0, .int .u64 0]) 5 16 Try.underlying39 hi hz0 hz1 hz2 rfl (by decide) v pre.length (pre.flatMap venc) (by first | rfl | (trace "hs"; trace_state; fail)) (hrow.alloc _) ⟨W.heap.size, 0, none⟩ 1 1 (venc x) rfl rfl hcx (venc_one x) (by omega) (by omega) (by have := hB.size; simp; omega) ?_; intro v' w1 hown' hgrow _; obtain ⟨g', cap', rfl⟩ := ownsRow_succ hown'; obtain ⟨hv1, hv2, hr2, hk2, hb2⟩ := hv.appended (by decide) hrow hB.size (Nat.le_refl _) hown' hgrow; have hc1 := hv1.cell; have hf1 := hv1.frozen)
    exact ⟨hk2.from _, hk2.walks, ⟨_, hv2, by simpa using hr2, by simp⟩, hB.trans hb2⟩
  case done =>
    rintro D ys W hD hS ⟨⟨v, hv, hrow, hnil⟩, hB⟩ hK
    have hc := hv.cell
    gi_wp2
    refine ⟨by simp, .inl ⟨_, _, rfl, run_takeDeferred hK, ?_⟩⟩
    exact ⟨_, results_tmp rfl _ _ _, v, ys, rfl, hS, ownsRow_putObj hrow _ hK rfl, hnil, hB.trans (belowK_b (w := w) (Nat.le_refl _) W D _ _ (by simp at hD; omega) hK rfl rfl)⟩
  case stop =>
    rintro D c pre W _ _ h _
    exact h.elim
end Go.Proofs.Ythljboogcjpgiaa.Ds
