-- Printed by a program of this session (wip/drive.py, over the kit's print.py with its own changes). Lean checks it.
import Derived.Test.YthljboogcjpgiaaPAllx0
import Derived.Test.YthljboogcjpgiaaPAllx7
namespace Go.Proofs.Ythljboogcjpgiaa.PAll
open Go.RowKit Go.Proofs.YthljboogcjpgiaaW.PrintWords Go.Proofs.YthljboogcjpgiaaW.PrintLast Go.Proofs.YthljboogcjpgiaaW.PrintMore
attribute [local go_sem] max2_int min2_int max_two min_two max_three min_three max_four min_four   -- for this text's walks alone
set_option linter.unusedVariables false
set_option linter.unusedSimpArgs false

/-! ### dot_Compare: function 11 -/
/-- Four bytes against four. -/
def cmp4 (x0 x1 x2 x3 y0 y1 y2 y3 : Int) : Int := Extern.BytealgCompare.cmp ⟨#[x0.toNat.toUInt8, x1.toNat.toUInt8, x2.toNat.toUInt8, x3.toNat.toUInt8]⟩ ⟨#[y0.toNat.toUInt8, y1.toNat.toUInt8, y2.toNat.toUInt8, y3.toNat.toUInt8]⟩
def cmpd (x0 x1 x2 x3 x4 y0 y1 y2 y3 y4 : Int) : Int := if cmp4 x0 x1 x2 x3 y0 y1 y2 y3 = 0 then (if x4 < y4 then -1 else if x4 > y4 then 1 else 0) else cmp4 x0 x1 x2 x3 y0 y1 y2 y3
def dot_Compare.f (a0_0 a0_1 a0_2 a0_3 a0_4 a1_0 a1_1 a1_2 a1_3 a1_4 : Int) : Option Int := some (cmpd a0_0 a0_1 a0_2 a0_3 a0_4 a1_0 a1_1 a1_2 a1_3 a1_4)
theorem cmp_load4 {W : World} {b : Nat} {x0 x1 x2 x3 : Int} (h0 : W.cell? ⟨b, 0, none⟩ = some (.int .u8 x0)) (h1 : W.cell? ⟨b, 1, none⟩ = some (.int .u8 x1)) (h2 : W.cell? ⟨b, 2, none⟩ = some (.int .u8 x2)) (h3 : W.cell? ⟨b, 3, none⟩ = some (.int .u8 x3)) (c : Nat) :
    (Extern.Bytes.bytesOf (.slice (some ⟨b, 0, none⟩) 4 c)).run Try.prog W = .ok (⟨#[x0.toNat.toUInt8, x1.toNat.toUInt8, x2.toNat.toUInt8, x3.toNat.toUInt8]⟩ : ByteArray) W := by
  simp [Extern.Bytes.bytesOf, Extern.Bytes.loadBytes, go_sem, h0, h1, h2, h3, add_plain]
  rfl
set_option maxHeartbeats 2000000 in
set_option maxRecDepth 100000 in
theorem cmp_bytes {W : World} {b b' : Nat} {x0 x1 x2 x3 y0 y1 y2 y3 : Int} (h0 : W.cell? ⟨b, 0, none⟩ = some (.int .u8 x0)) (h1 : W.cell? ⟨b, 1, none⟩ = some (.int .u8 x1)) (h2 : W.cell? ⟨b, 2, none⟩ = some (.int .u8 x2)) (h3 : W.cell? ⟨b, 3, none⟩ = some (.int .u8 x3))
    (g0 : W.cell? ⟨b', 0, none⟩ = some (.int .u8 y0)) (g1 : W.cell? ⟨b', 1, none⟩ = some (.int .u8 y1)) (g2 : W.cell? ⟨b', 2, none⟩ = some (.int .u8 y2)) (g3 : W.cell? ⟨b', 3, none⟩ = some (.int .u8 y3)) (c c' : Nat) :
    Calls Try.prog 33 #[.slice (some ⟨b, 0, none⟩) 4 c, .slice (some ⟨b', 0, none⟩) 4 c'] W fun e w' => e = .returned (.int .i64 (cmp4 x0 x1 x2 x3 y0 y1 y2 y3)) ∧ w' = W := by
  have e1 : (Extern.BytealgCompare.compare #[.slice (some ⟨b, 0, none⟩) 4 c, .slice (some ⟨b', 0, none⟩) 4 c']).run Try.prog W = .ok (.int .i64 (cmp4 x0 x1 x2 x3 y0 y1 y2 y3)) W := by
    change Sem.run Try.prog (do
      let p ← Extern.Bytes.bytesOf (.slice (some ⟨b, 0, none⟩) 4 c)
      let q ← Extern.Bytes.bytesOf (.slice (some ⟨b', 0, none⟩) 4 c')
      pure (goInt (Extern.BytealgCompare.cmp p q))) W = _
    simp only [Sem.run_bind, cmp_load4 h0 h1 h2 h3, cmp_load4 g0 g1 g2 g3, Result.andThen, Sem.run_pure]
    rfl
  clear h0 h1 h2 h3 g0 g1 g2 g3
  go_enter Try.func33, Try.ntmps33
  go_wp2
  rw [run_callFunc_extern Try.func39 (by kernel_rfl) (by kernel_rfl) (by kernel_rfl) (e := Extern.BytealgCompare.compare) (by kernel_rfl), e1]
  simp only [Result.andThen]
  rw [Oper.upon_value]
  go_wp2
  go_ret
  exact ⟨rfl, rfl⟩
theorem cmp_new0 (w : World) (a b : Obj) : (((w.alloc a).alloc b).drew).heap[w.heap.size]? = some a := by
  show ((w.heap.push a).push b)[w.heap.size]? = _
  simp [Array.getElem?_push]
theorem cmp_new1 (w : World) (a b : Obj) : (((w.alloc a).alloc b).drew).heap[w.heap.size + 1]? = some b := by
  have h := heap_alloc_new (w.alloc a) b
  rw [World.size_alloc] at h
  exact h
theorem cmp_row (W : World) (c d : Int) {g : Nat} (hg : g = W.heap.size) : Kd.C (Kd.int .i64) (W.alloc (.cells #[.int .i64 c, .int .i64 d] 3)) (some ⟨g, 0, none⟩) 2 [c, d] := by
  subst hg
  refine ⟨rfl, by decide, fun _ => ⟨_, rfl, fun j p hj => ⟨[.int .i64 p], rfl, rfl, fun i u hu => ?_⟩⟩⟩
  have hi : i = 0 := by
    rcases i with _ | i
    · rfl
    · simp at hu
  subst hi
  simp at hu
  subst hu
  show (W.alloc _).cell? ((⟨W.heap.size, 0, none⟩ : Addr).add (j * 1 + 0)) = _
  rw [add_plain, blk_cell (heap_alloc_new W _)]
  match j, hj with
  | 0, hj => simp at hj; simp [hj]
  | 1, hj => simp at hj; simp [hj]
theorem cmp_or2 (c d : Int) : cmp_Or_int.f 5 [c, d] = some (if c = 0 then d else c) := by
  have w1 : wrap64 1 = 1 := by unfold wrap64; omega
  have w2 : wrap64 2 = 2 := by unfold wrap64; omega
  unfold cmp_Or_int.f
  by_cases h : c = 0
  · subst h
    by_cases h2 : d = 0
    · subst h2; simp [cmp_Or_int.l0, rd, w1, w2]
    · simp [cmp_Or_int.l0, rd, h2, w1, w2]
  · simp [cmp_Or_int.l0, rd, h]
theorem cmp_u64 (x y : Int) : cmp_Compare_uint64.f x y = some (if x < y then -1 else if x > y then 1 else 0) := by
  unfold cmp_Compare_uint64.f cmp_isNaN_uint64.f
  by_cases h : x < y <;> by_cases h2 : x > y <;> simp [h, h2]
set_option maxHeartbeats 8000000 in
set_option maxRecDepth 100000 in
theorem dot_Compare.grows (x0 x1 x2 x3 x4 y0 y1 y2 y3 y4 : Int) (w : World) :
    Calls Try.prog 11 #[.agg #[.int .u8 x0, .int .u8 x1, .int .u8 x2, .int .u8 x3, .int .u64 x4], .agg #[.int .u8 y0, .int .u8 y1, .int .u8 y2, .int .u8 y3, .int .u64 y4]] w fun e w' => e = .returned (.int .i64 (cmpd x0 x1 x2 x3 x4 y0 y1 y2 y3 y4)) ∧ ∃ q os', w' = Sort.grow (w.drewN q) os' := by
  obtain ⟨c, hc⟩ : ∃ c, c = cmp4 x0 x1 x2 x3 y0 y1 y2 y3 := ⟨_, rfl⟩
  obtain ⟨d, hd⟩ : ∃ d : Int, d = if x4 < y4 then -1 else if x4 > y4 then 1 else 0 := ⟨_, rfl⟩
  have hr : cmpd x0 x1 x2 x3 x4 y0 y1 y2 y3 y4 = if c = 0 then d else c := by unfold cmpd; rw [hc, hd]
  have HU := Aside0.mk (hd ▸ cmp_u64 x4 y4)
  have HO0 := cmp_or2 c d
  rw [← hr] at HO0
  generalize cmpd x0 x1 x2 x3 x4 y0 y1 y2 y3 y4 = z at HO0 ⊢
  have HO := Aside0.mk HO0
  clear HO0
  have HC := Aside0.mk hc
  clear hc hd
  try clear hr
  have hb0 : ∀ j, (((w.alloc (.cells #[.int .u8 x0, .int .u8 x1, .int .u8 x2, .int .u8 x3, .int .u64 x4] 26)).alloc (.cells #[.int .u8 y0, .int .u8 y1, .int .u8 y2, .int .u8 y3, .int .u64 y4] 26)).drew).cell? ⟨w.heap.size, j, none⟩ = (#[.int .u8 x0, .int .u8 x1, .int .u8 x2, .int .u8 x3, .int .u64 x4] : Array Value)[j]? := fun j => blk_cell (cs := #[.int .u8 x0, .int .u8 x1, .int .u8 x2, .int .u8 x3, .int .u64 x4]) (cmp_new0 w _ _) j
  have hb1 : ∀ j, (((w.alloc (.cells #[.int .u8 x0, .int .u8 x1, .int .u8 x2, .int .u8 x3, .int .u64 x4] 26)).alloc (.cells #[.int .u8 y0, .int .u8 y1, .int .u8 y2, .int .u8 y3, .int .u64 y4] 26)).drew).cell? ⟨w.heap.size + 1, j, none⟩ = (#[.int .u8 y0, .int .u8 y1, .int .u8 y2, .int .u8 y3, .int .u64 y4] : Array Value)[j]? := fun j => blk_cell (cs := #[.int .u8 y0, .int .u8 y1, .int .u8 y2, .int .u8 y3, .int .u64 y4]) (cmp_new1 w _ _) j
  have a0 := hb0 0
  have a1 := hb0 1
  have a2 := hb0 2
  have a3 := hb0 3
  have a4 := hb0 4
  have b0 := hb1 0
  have b1 := hb1 1
  have b2 := hb1 2
  have b3 := hb1 3
  have b4 := hb1 4
  simp only [List.getElem?_toArray, List.getElem?_cons_zero, List.getElem?_cons_succ] at a0 a1 a2 a3 a4 b0 b1 b2 b3 b4
  have CB := Aside0.mk (cmp_bytes a0 a1 a2 a3 b0 b1 b2 b3 4 4)
  clear hb0 hb1 a0 a1 a2 a3 b0 b1 b2 b3
  rw [← HC.out] at CB
  go_enter Try.func11, Try.ntmps11
  go_wp2
  go_region_with (first
    | (go_at_call 33; refine CB.out.mono ?_; rintro e w' ⟨rfl, rfl⟩)
    | (go_at_call 34; refine (cmp_Compare_uint64.calls x4 y4 d _ HU.out).mono ?_; rintro e w' ⟨rfl, ⟨nd, rfl⟩⟩)
    | (go_at_call 32; refine (cmp_Or_int.calls 5 _ 2 [c, d] _ _ (cmp_row _ c d (by simp)) (Nat.le_refl _) HO.out).mono ?_; rintro e w' ⟨rfl, ⟨nd2, rfl⟩⟩))
  all_goals
    go_wp2
    go_ret
    refine ⟨rfl, 1 + nd + nd2, #[.cells #[.int .u8 x0, .int .u8 x1, .int .u8 x2, .int .u8 x3, .int .u64 x4] 26, .cells #[.int .u8 y0, .int .u8 y1, .int .u8 y2, .int .u8 y3, .int .u64 y4] 26, .cells #[.int .i64 c, .int .i64 d] 3], ?_⟩
    simp only [Sort.alloc_eq_grow, Sort.grow, World.drewN, World.drew]
    simp [Nat.add_assoc]
    apply Array.toList_inj.1
    simp
theorem cmp_below (w : World) (q : Nat) (os : Array Obj) : Below w.heap.size w (Sort.grow (w.drewN q) os) := by
  rw [show Sort.grow (w.drewN q) os = (Sort.grow w os).drewN q from rfl]
  refine pw_below_drewN ?_ q
  obtain ⟨l, rfl⟩ : ∃ l : List Obj, os = l.toArray := ⟨os.toList, by simp⟩
  have : ∀ (l : List Obj) (W : World), Below w.heap.size w W → Below w.heap.size w (Sort.grow W l.toArray) := by
    intro l
    induction l with
    | nil => intro W h; simpa using h
    | cons o l ih =>
      intro W h
      have h2 := ih (W.alloc o) (below_alloc h o)
      rw [Sort.alloc_eq_grow, Sort.grow_grow] at h2
      simpa using h2
  exact this l w (Below.refl _ _)
theorem dot_Compare.calls (a0_0 a0_1 a0_2 a0_3 a0_4 a1_0 a1_1 a1_2 a1_3 a1_4 : Int) (r : Int) (w : World) (h : dot_Compare.f a0_0 a0_1 a0_2 a0_3 a0_4 a1_0 a1_1 a1_2 a1_3 a1_4 = some r) :
    Calls Try.prog 11 #[.agg #[.int .u8 a0_0, .int .u8 a0_1, .int .u8 a0_2, .int .u8 a0_3, .int .u64 a0_4], .agg #[.int .u8 a1_0, .int .u8 a1_1, .int .u8 a1_2, .int .u8 a1_3, .int .u64 a1_4]] w fun e w' => e = .returned (.int .i64 r) ∧ Below w.heap.size w w' := by
  obtain rfl := Option.some.inj h
  refine (dot_Compare.grows a0_0 a0_1 a0_2 a0_3 a0_4 a1_0 a1_1 a1_2 a1_3 a1_4 w).mono ?_
  rintro e w' ⟨rfl, q, os, rfl⟩
  exact ⟨rfl, cmp_below w q os⟩

/-! ### cornucopiaref17_Compare: function 12 -/
def refcmp (x0 x1 x2 x3 x4 y0 y1 y2 y3 y4 : Int) : Int := if x0 < y0 then -1 else if y0 < x0 then 1 else if x1 < y1 then -1 else if y1 < x1 then 1 else if x2 < y2 then -1 else if y2 < x2 then 1 else if x3 < y3 then -1 else if y3 < x3 then 1 else if x4 < y4 then -1 else if y4 < x4 then 1 else 0
def cornucopiaref17_Compare.f (a0_0 a0_1 a0_2 a0_3 a0_4 a1_0 a1_1 a1_2 a1_3 a1_4 : Int) : Option Int := some (refcmp a0_0 a0_1 a0_2 a0_3 a0_4 a1_0 a1_1 a1_2 a1_3 a1_4)
def RefEq (x y : Nat → Int) (k : Nat) : Prop := ∀ j, j < k → x j = y j
set_option maxHeartbeats 8000000 in
set_option maxRecDepth 100000 in
theorem cornucopiaref17_Compare.calls (a0_0 a0_1 a0_2 a0_3 a0_4 a1_0 a1_1 a1_2 a1_3 a1_4 : Int) (r : Int) (w : World) (h : cornucopiaref17_Compare.f a0_0 a0_1 a0_2 a0_3 a0_4 a1_0 a1_1 a1_2 a1_3 a1_4 = some r) :
    Calls Try.prog 12 #[.agg #[.int .u8 a0_0, .int .u8 a0_1, .int .u8 a0_2, .int .u8 a0_3, .int .u64 a0_4], .agg #[.int .u8 a1_0, .int .u8 a1_1, .int .u8 a1_2, .int .u8 a1_3, .int .u64 a1_4]] w fun e w' => e = .returned (.int .i64 r) ∧ Below w.heap.size w w' := by
  obtain rfl := Option.some.inj h
  clear h
  have HB := Aside0.mk (below_alloc (below_alloc (Below.refl w.heap.size w) (.cells #[.int .u8 a0_0, .int .u8 a0_1, .int .u8 a0_2, .int .u8 a0_3, .int .u64 a0_4] 26)) (.cells #[.int .u8 a1_0, .int .u8 a1_1, .int .u8 a1_2, .int .u8 a1_3, .int .u64 a1_4] 26))
  obtain ⟨W, hW⟩ : ∃ W, W = (w.alloc (.cells #[.int .u8 a0_0, .int .u8 a0_1, .int .u8 a0_2, .int .u8 a0_3, .int .u64 a0_4] 26)).alloc (.cells #[.int .u8 a1_0, .int .u8 a1_1, .int .u8 a1_2, .int .u8 a1_3, .int .u64 a1_4] 26) := ⟨_, rfl⟩
  have n0 : W.heap[w.heap.size]? = some (.cells #[.int .u8 a0_0, .int .u8 a0_1, .int .u8 a0_2, .int .u8 a0_3, .int .u64 a0_4] 26 (0, 0)) := by
    subst hW
    show ((w.heap.push _).push _)[w.heap.size]? = _
    rw [Array.getElem?_push_lt (by simp)]
    simp
  have n1 : W.heap[w.heap.size + 1]? = some (.cells #[.int .u8 a1_0, .int .u8 a1_1, .int .u8 a1_2, .int .u8 a1_3, .int .u64 a1_4] 26 (0, 0)) := by
    subst hW
    have h := heap_alloc_new (w.alloc (.cells #[.int .u8 a0_0, .int .u8 a0_1, .int .u8 a0_2, .int .u8 a0_3, .int .u64 a0_4] 26)) (.cells #[.int .u8 a1_0, .int .u8 a1_1, .int .u8 a1_2, .int .u8 a1_3, .int .u64 a1_4] 26)
    rw [World.size_alloc] at h
    exact h
  have x0 : W.cell? ⟨w.heap.size, 0, none⟩ = some (.int .u8 a0_0) := blk_cell n0 0
  have x1 : W.cell? ⟨w.heap.size, 1, none⟩ = some (.int .u8 a0_1) := blk_cell n0 1
  have x2 : W.cell? ⟨w.heap.size, 2, none⟩ = some (.int .u8 a0_2) := blk_cell n0 2
  have x3 : W.cell? ⟨w.heap.size, 3, none⟩ = some (.int .u8 a0_3) := blk_cell n0 3
  have x4 : W.cell? ⟨w.heap.size, 4, none⟩ = some (.int .u64 a0_4) := blk_cell n0 4
  have y0 : W.cell? ⟨w.heap.size + 1, 0, none⟩ = some (.int .u8 a1_0) := blk_cell n1 0
  have y1 : W.cell? ⟨w.heap.size + 1, 1, none⟩ = some (.int .u8 a1_1) := blk_cell n1 1
  have y2 : W.cell? ⟨w.heap.size + 1, 2, none⟩ = some (.int .u8 a1_2) := blk_cell n1 2
  have y3 : W.cell? ⟨w.heap.size + 1, 3, none⟩ = some (.int .u8 a1_3) := blk_cell n1 3
  have y4 : W.cell? ⟨w.heap.size + 1, 4, none⟩ = some (.int .u64 a1_4) := blk_cell n1 4
  clear n0 n1
  rw [← hW] at HB
  have HW := Aside0.mk hW
  clear hW
  go_enter Try.func12, Try.ntmps12
  go_wp2
  rw [← HW.out]
  clear HW
  have HX := Aside0.mk (fun q => pw_below_drewN HB.out q)
  go_loopw [5] (fun i wr => ∃ (k : Int) (q : Nat), 0 ≤ k ∧ k ≤ 4 ∧ i = .int .i64 k ∧ (0 < k → a0_0 = a1_0) ∧ (1 < k → a0_1 = a1_1) ∧ (2 < k → a0_2 = a1_2) ∧ (3 < k → a0_3 = a1_3) ∧ wr = W.drewN q) (fun i _ => 4 - (intOf i).toNat)
  case atStart => exact ⟨0, 0, by omega, by omega, rfl, fun h => by omega, fun h => by omega, fun h => by omega, fun h => by omega, rfl⟩
  case round =>
    obtain ⟨k, q, hk0, hk, rfl, e0, e1, e2, e3, rfl⟩ := hrel
    have hkk : k = 0 ∨ k = 1 ∨ k = 2 ∨ k = 3 ∨ k = 4 := by omega
    rcases hkk with rfl | rfl | rfl | rfl | rfl
    · clear e0 e1 e2 e3 hk hk0
      by_cases c : a0_0 < a1_0
      · go_wp2
        repeat (go_quiet (fail); try go_wp2)
        go_ret
        exact ⟨by unfold refcmp; simp [c], by with_reducible repeat (first | exact HB.out | apply pw_below_drewN)⟩
      · by_cases d : a1_0 < a0_0
        · go_wp2
          repeat (go_quiet (fail); try go_wp2)
          go_ret
          exact ⟨by unfold refcmp; simp [c, d], by with_reducible repeat (first | exact HB.out | apply pw_below_drewN)⟩
        · go_wp2
          repeat (go_quiet (fail); try go_wp2)
          go_roundw
          case rel => exact ⟨1, _, by omega, by omega, rfl, fun _ => by omega, fun h => by omega, fun h => by omega, fun h => by omega, rfl⟩
          case measure => simp [intOf]
    · have h0_ : a0_0 = a1_0 := e0 (by omega)
      clear e0 e1 e2 e3 hk hk0
      have H0 := Aside0.mk h0_
      clear h0_
      by_cases c : a0_1 < a1_1
      · go_wp2
        repeat (go_quiet (fail); try go_wp2)
        go_ret
        exact ⟨by unfold refcmp; simp [H0.out, c], by with_reducible repeat (first | exact HB.out | apply pw_below_drewN)⟩
      · by_cases d : a1_1 < a0_1
        · go_wp2
          repeat (go_quiet (fail); try go_wp2)
          go_ret
          exact ⟨by unfold refcmp; simp [H0.out, c, d], by with_reducible repeat (first | exact HB.out | apply pw_below_drewN)⟩
        · go_wp2
          repeat (go_quiet (fail); try go_wp2)
          go_roundw
          case rel => exact ⟨2, _, by omega, by omega, rfl, fun _ => H0.out, fun _ => by omega, fun h => by omega, fun h => by omega, rfl⟩
          case measure => simp [intOf]
    · have h0_ : a0_0 = a1_0 := e0 (by omega)
      have h1_ : a0_1 = a1_1 := e1 (by omega)
      clear e0 e1 e2 e3 hk hk0
      have H0 := Aside0.mk h0_
      clear h0_
      have H1 := Aside0.mk h1_
      clear h1_
      by_cases c : a0_2 < a1_2
      · go_wp2
        repeat (go_quiet (fail); try go_wp2)
        go_ret
        exact ⟨by unfold refcmp; simp [H0.out, H1.out, c], by with_reducible repeat (first | exact HB.out | apply pw_below_drewN)⟩
      · by_cases d : a1_2 < a0_2
        · go_wp2
          repeat (go_quiet (fail); try go_wp2)
          go_ret
          exact ⟨by unfold refcmp; simp [H0.out, H1.out, c, d], by with_reducible repeat (first | exact HB.out | apply pw_below_drewN)⟩
        · go_wp2
          repeat (go_quiet (fail); try go_wp2)
          go_roundw
          case rel => exact ⟨3, _, by omega, by omega, rfl, fun _ => H0.out, fun _ => H1.out, fun _ => by omega, fun h => by omega, rfl⟩
          case measure => simp [intOf]
    · have h0_ : a0_0 = a1_0 := e0 (by omega)
      have h1_ : a0_1 = a1_1 := e1 (by omega)
      have h2_ : a0_2 = a1_2 := e2 (by omega)
      clear e0 e1 e2 e3 hk hk0
      have H0 := Aside0.mk h0_
      clear h0_
      have H1 := Aside0.mk h1_
      clear h1_
      have H2 := Aside0.mk h2_
      clear h2_
      by_cases c : a0_3 < a1_3
      · go_wp2
        repeat (go_quiet (fail); try go_wp2)
        go_ret
        exact ⟨by unfold refcmp; simp [H0.out, H1.out, H2.out, c], by with_reducible repeat (first | exact HB.out | apply pw_below_drewN)⟩
      · by_cases d : a1_3 < a0_3
        · go_wp2
          repeat (go_quiet (fail); try go_wp2)
          go_ret
          exact ⟨by unfold refcmp; simp [H0.out, H1.out, H2.out, c, d], by with_reducible repeat (first | exact HB.out | apply pw_below_drewN)⟩
        · go_wp2
          repeat (go_quiet (fail); try go_wp2)
          go_roundw
          case rel => exact ⟨4, _, by omega, by omega, rfl, fun _ => H0.out, fun _ => H1.out, fun _ => H2.out, fun _ => by omega, rfl⟩
          case measure => simp [intOf]
    · have h0_ : a0_0 = a1_0 := e0 (by omega)
      have h1_ : a0_1 = a1_1 := e1 (by omega)
      have h2_ : a0_2 = a1_2 := e2 (by omega)
      have h3_ : a0_3 = a1_3 := e3 (by omega)
      clear e0 e1 e2 e3 hk hk0
      have H0 := Aside0.mk h0_
      clear h0_
      have H1 := Aside0.mk h1_
      clear h1_
      have H2 := Aside0.mk h2_
      clear h2_
      have H3 := Aside0.mk h3_
      clear h3_
      by_cases c : a0_4 < a1_4
      · go_wp2
        try (repeat (go_quiet (fail); try go_wp2))
        go_ret
        exact ⟨by unfold refcmp; simp [H0.out, H1.out, H2.out, H3.out, c], by with_reducible repeat (first | exact HB.out | apply pw_below_drewN)⟩
      · by_cases d : a1_4 < a0_4
        · go_wp2
          try (repeat (go_quiet (fail); try go_wp2))
          go_ret
          exact ⟨by unfold refcmp; simp [H0.out, H1.out, H2.out, H3.out, c, d], by with_reducible repeat (first | exact HB.out | apply pw_below_drewN)⟩
        · go_wp2
          try (repeat (go_quiet (fail); try go_wp2))
          go_ret
          exact ⟨by unfold refcmp; simp [H0.out, H1.out, H2.out, H3.out]; rw [if_neg (by omega), if_neg (by omega)], by with_reducible repeat (first | exact HB.out | apply pw_below_drewN)⟩

/-! ### cornucopiaref17_Actor: function 15 -/
def cornucopiaref17_Actor.f (a0 : Int) : Option (Int × Int × Int × Int) := some (((a0) % 4294967296) / 16777216, (((a0) % 4294967296) / 65536) % 256, (((a0) % 4294967296) / 256) % 256, (a0) % 256)
set_option maxHeartbeats 8000000 in
set_option maxRecDepth 100000 in
theorem cornucopiaref17_Actor.calls (a0 : Int) (r1 : Int) (r2 : Int) (r3 : Int) (r4 : Int) (w : World) (h : cornucopiaref17_Actor.f a0 = some (r1, r2, r3, r4)) :
    Calls Try.prog 15 #[.int .i64 a0] w fun e w' => e = .returned (.agg #[.int .u8 r1, .int .u8 r2, .int .u8 r3, .int .u8 r4]) ∧ Below w.heap.size w w' := by
  have hu23 := Try.underlying23
  have HB := Aside0.mk (Below.refl w.heap.size w)
  have H : (some (((a0) % 4294967296) / 16777216, (((a0) % 4294967296) / 65536) % 256, (((a0) % 4294967296) / 256) % 256, (a0) % 256)) = some (r1, r2, r3, r4) := h
  clear h
  simp only [Option.some.injEq, Prod.mk.injEq] at H
  obtain ⟨rfl, rfl, rfl, rfl⟩ := H
  go_enter Try.func15, Try.ntmps15
  go_wp2_with (first | ((with_reducible refine gate_dst (N := 2) rfl ?_); refine box_event ?hg (N := 2) ?hd (cs := #[.int .u8 0, .int .u8 0, .int .u8 0, .int .u8 0]) (t := 23) ?hr ?_; (case hd => rfl); (case hg => rfl); (case hr => first | (go_simp; done) | (go_simp; rfl)); intro gb114 hg w2 hbox hb; have n0_ := Aside0.mk (below_step (by repeat (first | (with_reducible first | exact HB.out | apply below_alloc | apply pw_below_drewN | apply below_drew1) | exact HB.out)) hb); have n1_ := Aside0.mk (hbox); have n2_ := Aside0.mk ((by rw [hg]; exact (below_size (by repeat (first | (with_reducible first | exact HB.out | apply below_alloc | apply pw_below_drewN | apply below_drew1) | exact HB.out))) : w.heap.size ≤ gb114)); have n3_ := Aside0.mk ((by rw [hg]; exact (below_size (by repeat (first | (with_reducible first | exact HB.out | apply below_alloc | apply pw_below_drewN | apply below_drew1) | exact HB.out))) : w.heap.size ≤ gb114)); clear HB; have HB := n0_; have BK114 := n1_; have GW114 := n2_; have GE114 := n3_; clear n0_ n1_ n2_ n3_; clear hb hbox hg; have hcz3_0 : w2.cell? ⟨gb114, 0, none⟩ = some (.int .u8 0) := (blk_cell BK114.out 0).trans rfl; have hcz3_1 : w2.cell? ⟨gb114, 1, none⟩ = some (.int .u8 0) := (blk_cell BK114.out 1).trans rfl; have hcz3_2 : w2.cell? ⟨gb114, 2, none⟩ = some (.int .u8 0) := (blk_cell BK114.out 2).trans rfl; have hcz3_3 : w2.cell? ⟨gb114, 3, none⟩ = some (.int .u8 0) := (blk_cell BK114.out 3).trans rfl; have hfz3_0 := blk_frozen BK114.out 0; have hfz3_1 := blk_frozen BK114.out 1; have hfz3_2 := blk_frozen BK114.out 2; have hfz3_3 := blk_frozen BK114.out 3))
  refine bodyPost_ret (results_cell_row rfl _ _ gb114 23 #[.int .u8 (((a0) % 4294967296) / 16777216), .int .u8 ((((a0) % 4294967296) / 65536) % 256), .int .u8 ((((a0) % 4294967296) / 256) % 256), .int .u8 ((a0) % 256)] (0, 0) _ rfl (by (with_reducible repeat (first | refine blk_drewN ?_ _ | refine blk_drew ?_ | refine blk_alloc ?_ _)); refine blk_put (cs := #[.int .u8 (((a0) % 4294967296) / 16777216), .int .u8 ((((a0) % 4294967296) / 65536) % 256), .int .u8 ((((a0) % 4294967296) / 256) % 256), .int .u8 0]) ?_ 3 _ rfl; (with_reducible repeat (first | refine blk_drewN ?_ _ | refine blk_drew ?_ | refine blk_alloc ?_ _)); refine blk_put (cs := #[.int .u8 (((a0) % 4294967296) / 16777216), .int .u8 ((((a0) % 4294967296) / 65536) % 256), .int .u8 0, .int .u8 0]) ?_ 2 _ rfl; (with_reducible repeat (first | refine blk_drewN ?_ _ | refine blk_drew ?_ | refine blk_alloc ?_ _)); refine blk_put (cs := #[.int .u8 (((a0) % 4294967296) / 16777216), .int .u8 0, .int .u8 0, .int .u8 0]) ?_ 1 _ rfl; (with_reducible repeat (first | refine blk_drewN ?_ _ | refine blk_drew ?_ | refine blk_alloc ?_ _)); refine blk_put (cs := #[.int .u8 0, .int .u8 0, .int .u8 0, .int .u8 0]) ?_ 0 _ rfl; (with_reducible repeat (first | refine blk_drewN ?_ _ | refine blk_drew ?_ | refine blk_alloc ?_ _)); exact BK114.out) Try.underlying23 rfl (by kernel_rfl)) rfl ?_
  exact ⟨by first | rfl | (simp [errW_none, errW_some] <;> rfl) | (simp [*, errW_none, errW_some] <;> rfl), by repeat (first | (with_reducible first | exact HB.out | apply below_alloc | apply pw_below_drewN | apply below_drew1 | refine below_set ?_ GE114.out) | exact HB.out)⟩

/-! ### cornucopiaref17_Id: function 17 -/
def cornucopiaref17_Id.f (a0_0 : Int) (a0_1 : Int) (a0_2 : Int) (a0_3 : Int) : Option (Int) := some (wrap64 ((wrap64 ((wrap64 ((wrap64 ((wrap64 (a0_0)) * 16777216)) + (wrap64 ((wrap64 (a0_1)) * 65536)))) + (wrap64 ((wrap64 (a0_2)) * 256)))) + (wrap64 (a0_3))))
set_option maxHeartbeats 8000000 in
set_option maxRecDepth 100000 in
theorem cornucopiaref17_Id.calls (a0_0 : Int) (a0_1 : Int) (a0_2 : Int) (a0_3 : Int) (r : Int) (w : World) (h : cornucopiaref17_Id.f a0_0 a0_1 a0_2 a0_3 = some r) :
    Calls Try.prog 17 #[.agg #[.int .u8 a0_0, .int .u8 a0_1, .int .u8 a0_2, .int .u8 a0_3]] w fun e w' => e = .returned (.int .i64 r) ∧ Below w.heap.size w w' := by
  have hu23 := Try.underlying23
  have HB := Aside0.mk (Below.refl w.heap.size w)
  have H : (some (wrap64 ((wrap64 ((wrap64 ((wrap64 ((wrap64 (a0_0)) * 16777216)) + (wrap64 ((wrap64 (a0_1)) * 65536)))) + (wrap64 ((wrap64 (a0_2)) * 256)))) + (wrap64 (a0_3))))) = some r := h
  clear h
  obtain rfl := Option.some.inj H
  go_enter Try.func17, Try.ntmps17
  go_wp2_with (first | ((with_reducible refine gate_dst (N := 1) rfl ?_); refine box_event ?hg (N := 1) ?hd (cs := #[.int .u8 a0_0, .int .u8 a0_1, .int .u8 a0_2, .int .u8 a0_3]) (t := 23) ?hr ?_; (case hd => rfl); (case hg => rfl); (case hr => first | (go_simp; done) | (go_simp; rfl)); intro gb115 hg w2 hbox hb; have n0_ := Aside0.mk (below_step (by repeat (first | (with_reducible first | exact HB.out | apply below_alloc | apply pw_below_drewN | apply below_drew1) | exact HB.out)) hb); have n1_ := Aside0.mk (hbox); have n2_ := Aside0.mk ((by rw [hg]; exact (below_size (by repeat (first | (with_reducible first | exact HB.out | apply below_alloc | apply pw_below_drewN | apply below_drew1) | exact HB.out))) : w.heap.size ≤ gb115)); have n3_ := Aside0.mk ((by rw [hg]; exact (below_size (by repeat (first | (with_reducible first | exact HB.out | apply below_alloc | apply pw_below_drewN | apply below_drew1) | exact HB.out))) : w.heap.size ≤ gb115)); clear HB; have HB := n0_; have BK115 := n1_; have GW115 := n2_; have GE115 := n3_; clear n0_ n1_ n2_ n3_; clear hb hbox hg; have hcz3_0 : w2.cell? ⟨gb115, 0, none⟩ = some (.int .u8 a0_0) := (blk_cell BK115.out 0).trans rfl; have hcz3_1 : w2.cell? ⟨gb115, 1, none⟩ = some (.int .u8 a0_1) := (blk_cell BK115.out 1).trans rfl; have hcz3_2 : w2.cell? ⟨gb115, 2, none⟩ = some (.int .u8 a0_2) := (blk_cell BK115.out 2).trans rfl; have hcz3_3 : w2.cell? ⟨gb115, 3, none⟩ = some (.int .u8 a0_3) := (blk_cell BK115.out 3).trans rfl; have hfz3_0 := blk_frozen BK115.out 0; have hfz3_1 := blk_frozen BK115.out 1; have hfz3_2 := blk_frozen BK115.out 2; have hfz3_3 := blk_frozen BK115.out 3))
  go_ret
  exact ⟨by first | rfl | (simp [errW_none, errW_some] <;> rfl) | (simp [*, errW_none, errW_some] <;> rfl), by repeat (first | (with_reducible first | exact HB.out | apply below_alloc | apply pw_below_drewN | apply below_drew1 | refine below_set ?_ GE115.out) | exact HB.out)⟩

end Go.Proofs.Ythljboogcjpgiaa.PAll
