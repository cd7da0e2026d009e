/- DrD, DrG, DrN: these texts as one. -/
import Derived.Test.YtdfaoafeojoceaaDrW
import Derived.Test.YtdfaoafeojoceaaDrNum
import Derived.Test.YtdfaoafeojoceaaBlay
import Derived.Laws.IdiomCopy
import Derived.Laws.ResultCell
import Derived.Test.YtdfaoafeojoceaaDrLay
import Derived.ChangeKeysEq
import Derived.Test.YtdfaoafeojoceaaPAllx9
set_option linter.unusedSimpArgs false
set_option linter.unusedVariables false
namespace Go.Proofs.Ytdfaoafeojoceaa.Dr
open Go.Maps Go.Proofs.Ytdfaoafeojoceaa.PAll Go.Proofs.Ytdfaoafeojoceaa.Pb Go.Proofs.Ytdfaoafeojoceaa.Pure Go.Proofs.Ytdfaoafeojoceaa.Rw Go.Proofs.YtdfaoafeojoceaaW.PrintWords Go.RowKit
attribute [local go_sem] put_fresh

/-! ### DrD -/
/-- The last twelve bytes of a key, and the number in the last eight. -/
def tl (key : ByteArray) : ByteArray := key.extract (key.size - 12) key.size
def dN (t : ByteArray) : Int := ((unL 0 (((ls t).drop 4).take 8) : Nat) : Int)
theorem tl_size {key : ByteArray} (h : 12 ≤ key.size) : (tl key).size = 12 := by
  unfold tl; rw [ByteArray.size_extract]; omega
def dval (t : ByteArray) : Value := .agg #[.int .u8 (bt t 0), .int .u8 (bt t 1), .int .u8 (bt t 2), .int .u8 (bt t 3), .int .u64 (dN t)]
theorem list4 (l : List UInt8) (h : 4 ≤ l.length) : (l.map fun x => Value.int .u8 (x.toNat : Int)).take 4 = [.int .u8 (((l.getD 0 0).toNat : Nat) : Int), .int .u8 (((l.getD 1 0).toNat : Nat) : Int), .int .u8 (((l.getD 2 0).toNat : Nat) : Int), .int .u8 (((l.getD 3 0).toNat : Nat) : Int)] := by
  match l, h with
  | a :: b :: c :: d :: r, _ => simp
theorem run_copy4 {P : Program} (w : World) (dT sT ty elem : TypeId) (b : Nat) (t : ByteArray)
    (hu : P.underlying dT = some (.slice elem)) (hz : ∀ w, (Go.sizeOf elem).run P w = .ok 1 w) (hle : 4 ≤ t.size)
    (hc : ∀ j, j < 4 → (w.cell? ⟨b, j, none⟩).isSome = true) (hf : ∀ j, j < 4 → w.frozen? ⟨b, j, none⟩ = false) :
    (Builtin.copy_ #[dT, sT] ty #[.slice (some ⟨b, 0, none⟩) 4 4, .string t]).run P w = .ok (.int .i64 4)
      ((((w.setCell ⟨b, 0, none⟩ (.int .u8 (bt t 0))).setCell ⟨b, 1, none⟩ (.int .u8 (bt t 1))).setCell ⟨b, 2, none⟩ (.int .u8 (bt t 2))).setCell ⟨b, 3, none⟩ (.int .u8 (bt t 3))) := by
  have hmin : Nat.min t.size 4 = 4 := Nat.min_eq_right hle
  have hl4 : 4 ≤ t.data.toList.length := by rw [Array.length_toList]; exact hle
  have hst := run_storeCells_cells (P := P) b 0 ((t.data.toList.map fun x => Value.int .u8 (x.toNat : Int)).take 4) 0 w (by rw [list4 _ hl4]; simpa using hc) (by rw [list4 _ hl4]; simpa using hf) (by
    intro v hv
    rw [list4 _ hl4] at hv
    simp only [List.mem_cons, List.not_mem_nil, or_false] at hv
    rcases hv with rfl | rfl | rfl | rfl <;> rfl)
  have hb : ∀ i : Nat, bt t (i : Int) = (((t.data.toList.getD i 0).toNat : Nat) : Int) := fun i => Pb.bt_ls t i
  rw [show bt t 0 = _ from hb 0, show bt t 1 = _ from hb 1, show bt t 2 = _ from hb 2, show bt t 3 = _ from hb 3]
  simp [Builtin.copy_, run_underlying hu, Builtin.lenOf, Builtin.firstCells, hz, hmin]
  rw [hst, list4 _ hl4]
  simp [Result.andThen, World.setCells, goInt]
theorem two_new0 (w : World) (a b : Obj) : ((w.alloc a).alloc b).heap[w.heap.size]? = some a := by
  show ((w.heap.push a).push b)[w.heap.size]? = _
  simp [Array.getElem?_push]
theorem two_new1 (w : World) (a b : Obj) : ((w.alloc a).alloc b).heap[w.heap.size + 1]? = some b := by
  have := heap_alloc_new (w.alloc a) b
  simpa using this
set_option maxHeartbeats 8000000 in
set_option maxRecDepth 100000 in
theorem dot_c (w : World) {key : ByteArray} (h : 12 ≤ key.size) (hs : key.size ≤ 1000000) :
    Calls Try.prog 23 #[.string key] w fun e w' => e = .returned (dval (tl key)) ∧ Below w.heap.size w w' := by
  have hu := Try.underlying53
  have ht := tl_size h
  obtain ⟨K, hU⟩ := Unfix_ev (tl key) 4 8 (by omega) (by omega) (by omega) (by omega)
  have hU := hU K (Nat.le_refl _)
  have HU := Aside0.mk (show num_Unfix.f K (tl key) 4 8 = some (dN (tl key), 0) from hU)
  have e1 : ((key.size : Int) - 12).toNat = key.size - 12 := by omega
  have e2 : wrap64 ((key.size : Int) - 12) = (key.size : Int) - 12 := by unfold wrap64; omega
  have e3 : (0 : Int) ≤ (key.size : Int) - 12 := by omega
  have e4 : ((key.size : Int) - 12) ≤ (key.size : Int) := by omega
  have hbk : ((w.alloc (.cells #[.int .u8 0, .int .u8 0, .int .u8 0, .int .u8 0, .int .u64 0] 53)).alloc (.cells #[.int .u8 0, .int .u8 0, .int .u8 0, .int .u8 0, .int .u64 0] 53)).heap[w.heap.size + 1]? = some (.cells #[.int .u8 0, .int .u8 0, .int .u8 0, .int .u8 0, .int .u64 0] 53) := two_new1 w _ _
  have cp := run_copy4 (P := Try.prog) ((w.alloc (.cells #[.int .u8 0, .int .u8 0, .int .u8 0, .int .u8 0, .int .u64 0] 53)).alloc (.cells #[.int .u8 0, .int .u8 0, .int .u8 0, .int .u8 0, .int .u64 0] 53)) 75 9 3 5 (w.heap.size + 1) (tl key) Try.underlying75 Try.sizeOf5 (by omega)
    (fun j hj => by rw [blk_cell hbk]; have : j = 0 ∨ j = 1 ∨ j = 2 ∨ j = 3 := by omega
                    rcases this with rfl | rfl | rfl | rfl <;> rfl) (fun j hj => blk_frozen hbk j)
  have et : key.extract (key.size - 12) key.size = tl key := rfl
  generalize tl key = t at *
  clear hbk hU
  go_enter Try.func23, Try.ntmps23
  go_wp2_with fail
  clear cp
  refine (num_Unfix.calls K t 4 8 (dN t) 0 _ HU.out).mono ?_
  rintro en w2 ⟨rfl, ⟨nd, hw2⟩⟩
  have hG0 : w2.heap[w.heap.size]? = some (.cells #[.int .u8 0, .int .u8 0, .int .u8 0, .int .u8 0, .int .u64 0] 53 (0, 0)) := by
    rw [hw2]; exact two_new0 w _ _
  have hG1 : w2.heap[w.heap.size + 1]? = some (.cells #[.int .u8 (bt t 0), .int .u8 (bt t 1), .int .u8 (bt t 2), .int .u8 (bt t 3), .int .u64 0] 53 (0, 0)) := by
    rw [hw2]; exact two_new1 w _ _
  have hbl : Below w.heap.size w w2 := by
    rw [hw2]; exact pw_below_drewN (below_alloc (below_alloc (Below.refl w.heap.size w) _) _) nd
  clear hw2
  have c4 : w2.cell? ⟨w.heap.size + 1, 4, none⟩ = some (.int .u64 0) := (blk_cell hG1 4).trans rfl
  have g4 := blk_frozen hG1 4
  have hG2 : (w2.setCell ⟨w.heap.size + 1, 4, none⟩ (.int .u64 (dN t))).heap[w.heap.size + 1]? = some (.cells #[.int .u8 (bt t 0), .int .u8 (bt t 1), .int .u8 (bt t 2), .int .u8 (bt t 3), .int .u64 (dN t)] 53 (0, 0)) := set_blk _ hG1
  have hG3 : (w2.setCell ⟨w.heap.size + 1, 4, none⟩ (.int .u64 (dN t))).heap[w.heap.size]? = some (.cells #[.int .u8 0, .int .u8 0, .int .u8 0, .int .u8 0, .int .u64 0] 53 (0, 0)) := (set_other _ (by omega)).trans hG0
  have HW := Aside0.mk (below_set (j := 4) (v := .int .u64 (dN t)) (g := w.heap.size + 1) hbl (by omega))
  clear hbl hG0 hG1
  have b0 : (w2.setCell ⟨w.heap.size + 1, 4, none⟩ (.int .u64 (dN t))).cell? ⟨w.heap.size + 1, 0, none⟩ = some (.int .u8 (bt t 0)) := (blk_cell hG2 0).trans rfl
  have b1 : (w2.setCell ⟨w.heap.size + 1, 4, none⟩ (.int .u64 (dN t))).cell? ⟨w.heap.size + 1, 1, none⟩ = some (.int .u8 (bt t 1)) := (blk_cell hG2 1).trans rfl
  have b2 : (w2.setCell ⟨w.heap.size + 1, 4, none⟩ (.int .u64 (dN t))).cell? ⟨w.heap.size + 1, 2, none⟩ = some (.int .u8 (bt t 2)) := (blk_cell hG2 2).trans rfl
  have b3 : (w2.setCell ⟨w.heap.size + 1, 4, none⟩ (.int .u64 (dN t))).cell? ⟨w.heap.size + 1, 3, none⟩ = some (.int .u8 (bt t 3)) := (blk_cell hG2 3).trans rfl
  have b4 : (w2.setCell ⟨w.heap.size + 1, 4, none⟩ (.int .u64 (dN t))).cell? ⟨w.heap.size + 1, 4, none⟩ = some (.int .u64 (dN t)) := (blk_cell hG2 4).trans rfl
  have d0 : (w2.setCell ⟨w.heap.size + 1, 4, none⟩ (.int .u64 (dN t))).cell? ⟨w.heap.size, 0, none⟩ = some (.int .u8 0) := (blk_cell hG3 0).trans rfl
  have d1 : (w2.setCell ⟨w.heap.size + 1, 4, none⟩ (.int .u64 (dN t))).cell? ⟨w.heap.size, 1, none⟩ = some (.int .u8 0) := (blk_cell hG3 1).trans rfl
  have d2 : (w2.setCell ⟨w.heap.size + 1, 4, none⟩ (.int .u64 (dN t))).cell? ⟨w.heap.size, 2, none⟩ = some (.int .u8 0) := (blk_cell hG3 2).trans rfl
  have d3 : (w2.setCell ⟨w.heap.size + 1, 4, none⟩ (.int .u64 (dN t))).cell? ⟨w.heap.size, 3, none⟩ = some (.int .u8 0) := (blk_cell hG3 3).trans rfl
  have d4 : (w2.setCell ⟨w.heap.size + 1, 4, none⟩ (.int .u64 (dN t))).cell? ⟨w.heap.size, 4, none⟩ = some (.int .u64 0) := (blk_cell hG3 4).trans rfl
  have f0 := blk_frozen hG3 0
  have f1 := blk_frozen hG3 1
  have f2 := blk_frozen hG3 2
  have f3 := blk_frozen hG3 3
  have f4 := blk_frozen hG3 4
  have HG := Aside0.mk hG3
  clear hG2 hG3
  go_wp2_with fail
  have hZ := set_blk (j := 4) (.int .u64 (dN t)) (set_blk (j := 3) (.int .u8 (bt t 3)) (set_blk (j := 2) (.int .u8 (bt t 2)) (set_blk (j := 1) (.int .u8 (bt t 1)) (set_blk (j := 0) (.int .u8 (bt t 0)) HG.out))))
  have HB := below_set (j := 4) (v := .int .u64 (dN t)) (below_set (j := 3) (v := .int .u8 (bt t 3)) (below_set (j := 2) (v := .int .u8 (bt t 2)) (below_set (j := 1) (v := .int .u8 (bt t 1)) (below_set (j := 0) (v := .int .u8 (bt t 0)) HW.out (Nat.le_refl _)) (Nat.le_refl _)) (Nat.le_refl _)) (Nat.le_refl _)) (Nat.le_refl _)
  have z0 := blk_cell hZ 0
  have z1 := blk_cell hZ 1
  have z2 := blk_cell hZ 2
  have z3 := blk_cell hZ 3
  have z4 := blk_cell hZ 4
  clear b0 b1 b2 b3 b4 c4 d0 d1 d2 d3 d4 f0 f1 f2 f3 f4 g4 HW HG hZ
  generalize ((((((w2.setCell ⟨w.heap.size + 1, 4, none⟩ (.int .u64 (dN t))).setCell ⟨w.heap.size, 0, none⟩ (.int .u8 (bt t 0))).setCell ⟨w.heap.size, 1, none⟩ (.int .u8 (bt t 1))).setCell ⟨w.heap.size, 2, none⟩ (.int .u8 (bt t 2))).setCell ⟨w.heap.size, 3, none⟩ (.int .u8 (bt t 3))).setCell ⟨w.heap.size, 4, none⟩ (.int .u64 (dN t))) = w9 at *
  simp at z0 z1 z2 z3 z4
  exact bodyPost_ret (v := dval t) (by simp [results, Try.results23, go_sem, z0, z1, z2, z3, z4, dval]) rfl ⟨rfl, HB⟩

/-! ### DrG -/
theorem eql_actor (x0 x1 x2 x3 y0 y1 y2 y3 : Int) (w : World) : (binOp .eql 45 (.agg #[.int .u8 x0, .int .u8 x1, .int .u8 x2, .int .u8 x3]) (.agg #[.int .u8 y0, .int .u8 y1, .int .u8 y2, .int .u8 y3])).run Try.prog w = .ok (.bool (x0 == y0 && x1 == y1 && x2 == y2 && x3 == y3)) w := by
  obtain ⟨i_, hi_⟩ := info_of_underlying Try.underlying5
  have hc_ : Try.prog.cellsOf 5 = 1 := by kernel_rfl
  simp only [binOp]
  show (do let b ← Op.equalIn (9998 + 1 + 1) 45 (.agg #[.int .u8 x0, .int .u8 x1, .int .u8 x2, .int .u8 x3]) (.agg #[.int .u8 y0, .int .u8 y1, .int .u8 y2, .int .u8 y3]); pure (Value.bool b)).run Try.prog w = _
  rw [Sem.run_bind, run_equalIn_array w (9998 + 1) _ _ Try.underlying45 hi_, hc_]
  show (Result.andThen ((Op.eqItems (9998 + 1) 5 1 _ _ [0, 1, 2, 3]).run _ _) _) = _
  simp only [Op.eqItems]
  go_simp
  by_cases h0 : x0 = y0 <;> by_cases h1 : x1 = y1 <;> by_cases h2 : x2 = y2 <;> by_cases h3 : x3 = y3 <;> simp [h0, h1, h2, h3]
/-- Does a span have the dot at a key's end? -/
def inSp (t : ByteArray) (x : Sp) : Bool := (x.a == bt t 0 && x.b == bt t 1 && x.c == bt t 2 && x.d == bt t 3) && decide (x.fr ≤ dN t) && decide (dN t ≤ x.tt)
set_option maxRecDepth 100000 in
set_option maxHeartbeats 4000000 in
theorem in_c (t : ByteArray) (B : Nat) (w : World) (hB : w.heap[B]? = some (.cells #[.int .u8 (bt t 0), .int .u8 (bt t 1), .int .u8 (bt t 2), .int .u8 (bt t 3), .int .u64 (dN t)] 53 (0, 0))) :
    PredBelow Try.prog 25 #[.pointer (some ⟨B, 0, none⟩)] (fun x => .agg (scells x).toArray) (inSp t) w := fun W x hb => by
  have hBl := (Array.getElem?_eq_some_iff.1 hB).1
  have hB' : W.heap[B]? = _ := (hb.block B hBl).trans hB
  have h2 : (W.alloc (.cells #[.int .u8 x.a, .int .u8 x.b, .int .u8 x.c, .int .u8 x.d, .int .u64 x.fr, .int .u64 x.tt] 47)).heap[B]? = _ := (heap_alloc_old W _ (by have := hb.size; omega)).trans hB'
  have c0 := blk_cell h2 0
  have c1 := blk_cell h2 1
  have c2 := blk_cell h2 2
  have c3 := blk_cell h2 3
  have c4 := blk_cell h2 4
  have h3 := heap_alloc_new W (.cells #[.int .u8 x.a, .int .u8 x.b, .int .u8 x.c, .int .u8 x.d, .int .u64 x.fr, .int .u64 x.tt] 47)
  have d0 := blk_cell h3 0
  have d1 := blk_cell h3 1
  have d2 := blk_cell h3 2
  have d3 := blk_cell h3 3
  have d4 := blk_cell h3 4
  have d5 := blk_cell h3 5
  simp only [List.getElem?_toArray, List.getElem?_cons_zero, List.getElem?_cons_succ] at c0 c1 c2 c3 c4 d0 d1 d2 d3 d4 d5
  have HB := Aside0.mk (hb.alloc hb.size (.cells #[.int .u8 x.a, .int .u8 x.b, .int .u8 x.c, .int .u8 x.d, .int .u64 x.fr, .int .u64 x.tt] 47))
  clear h2 h3 hB hB' hb
  have he := eql_actor x.a x.b x.c x.d (bt t 0) (bt t 1) (bt t 2) (bt t 3)
  show Calls Try.prog 25 #[.agg #[.int .u8 x.a, .int .u8 x.b, .int .u8 x.c, .int .u8 x.d, .int .u64 x.fr, .int .u64 x.tt], .pointer (some ⟨B, 0, none⟩)] W _
  unfold inSp
  generalize (x.a == bt t 0 && x.b == bt t 1 && x.c == bt t 2 && x.d == bt t 3) = q at *
  by_cases h1 : x.fr ≤ dN t <;> by_cases h2 : dN t ≤ x.tt <;> cases q <;> simp only [h1, h2, decide_true, decide_false, Bool.and_true, Bool.and_false, Bool.false_and, Bool.true_and]
  all_goals
    go_enter Try.func25, Try.ntmps25
    go_wp2
    go_ret
    exact ⟨rfl, HB.out⟩
theorem idx0S (A : Option Addr) (c : Nat) (fv : Value) (W : World) : Calls Try.prog 37 #[.slice A 0 c, fv] W fun e w' => e = .returned (.int .i64 (-1)) ∧ w' = W := by
  go_enter Try.func37, Try.ntmps37
  go_wp2
  go_loopw [8] (fun i wr => i = .int .i64 0 ∧ wr = W) (fun _ _ => 0)
  case atStart => exact ⟨rfl, rfl⟩
  case round =>
    obtain ⟨rfl, rfl⟩ := hrel
    go_wp2
    go_ret
    exact ⟨rfl, rfl⟩
theorem any0S (A : Option Addr) (c : Nat) (fv : Value) (W : World) : Calls Try.prog 24 #[.slice A 0 c, fv] W fun e w' => e = .returned (.bool false) ∧ w' = W := by
  go_enter Try.func24, Try.ntmps24
  go_wp2_with fail
  refine (idx0S A c fv W).mono ?_
  rintro e w' ⟨rfl, rfl⟩
  go_wp2
  go_ret
  exact ⟨rfl, rfl⟩
theorem idx0E (A : Option Addr) (c : Nat) (fv : Value) (W : World) : Calls Try.prog 42 #[.slice A 0 c, fv] W fun e w' => e = .returned (.int .i64 (-1)) ∧ w' = W := by
  go_enter Try.func42, Try.ntmps42
  go_wp2
  go_loopw [8] (fun i wr => i = .int .i64 0 ∧ wr = W) (fun _ _ => 0)
  case atStart => exact ⟨rfl, rfl⟩
  case round =>
    obtain ⟨rfl, rfl⟩ := hrel
    go_wp2
    go_ret
    exact ⟨rfl, rfl⟩
/-- Any of the spans: slices.ContainsFunc. -/
theorem any_c {W : World} {A : Option Addr} {l : List Sp} (h : Reads KS W A l) (c : Nat) (hl : l.length ≤ 9223372036854775807) (t : ByteArray) (B : Nat) (hB : W.heap[B]? = some (.cells #[.int .u8 (bt t 0), .int .u8 (bt t 1), .int .u8 (bt t 2), .int .u8 (bt t 3), .int .u64 (dN t)] 53 (0, 0))) :
    Calls Try.prog 24 #[.slice A l.length c, .func (.func 25) #[] #[.pointer (some ⟨B, 0, none⟩)]] W fun e w' => e = .returned (.bool (l.any (inSp t))) ∧ Below W.heap.size W w' := by
  by_cases h0 : 0 < l.length
  · obtain ⟨g, o, rfl, hg⟩ := h.where h0
    have hk := AnyQ.slices_ContainsFunc (P := Try.prog) Try.anySpan 6 Try.isAgg47 Try.sizeOf47 scells (fun _ => rfl) (inSp t) 25 #[.pointer (some ⟨B, 0, none⟩)] (enters_of Try.func25 (by kernel_rfl) rfl) g o l.length c l W (in_c t B W hB) (Nat.le_refl _) hl hg
      (fun j hj i v hv => by
        have hx : l[j]? = some l[j]! := by rw [List.getElem!_eq_getElem?_getD, List.getElem?_eq_getElem hj]; rfl
        exact h.at hx hv)
    rw [List.take_length] at hk
    exact hk
  · obtain rfl := List.length_eq_zero_iff.1 (by omega : l.length = 0)
    refine (any0S A c _ W).mono ?_
    rintro e w' ⟨rfl, rfl⟩
    exact ⟨rfl, Below.refl _ _⟩
/-- Does a key go? -/
def goesN (M : ByteArray → Option (List Sp)) (key : ByteArray) : Nat → Bool
  | 0 => false
  | n + 1 => match M (key.extract 0 n) with
    | some l => l.any (inSp (tl key))
    | none => goesN M key n
def goesP (M : ByteArray → Option (List Sp)) (key : ByteArray) : Bool := goesN M key (key.size - 11)
theorem len_c {W : World} {B n : Nat} {M : ByteArray → Option (List Sp)} (h : FiltAt W B M n) : Calls Try.prog 11 #[.pointer (some ⟨B, 0, none⟩)] W fun e W' => e = .returned (.int .i64 n) ∧ W' = W := by
  obtain ⟨m, hB, hl⟩ := h.len
  have hl := hl 3
  have hc : W.cell? ⟨B, 0, none⟩ = some m := blk_cell hB 0
  clear hB
  go_enter Try.func11, Try.ntmps11
  go_wp2
  go_ret
  exact ⟨rfl, rfl⟩
theorem len_nil (W : World) : Calls Try.prog 11 #[.pointer none] W fun e W' => e = .returned (.int .i64 0) ∧ W' = W := by
  go_enter Try.func11, Try.ntmps11
  go_wp2
  go_ret
  exact ⟨rfl, rfl⟩
theorem goes_nil (W : World) (key : ByteArray) : Calls Try.prog 10 #[.pointer none, .string key] W fun e W' => e = .returned (.bool false) ∧ W' = W := by
  go_enter Try.func10, Try.ntmps10
  go_wp2
  go_ret
  exact ⟨rfl, rfl⟩
set_option maxRecDepth 100000 in
set_option maxHeartbeats 8000000 in
theorem goes_c {W : World} {B n : Nat} {M : ByteArray → Option (List Sp)} (h : FiltAt W B M n) {key : ByteArray} (hs : key.size ≤ 1000000) (hM : ∀ s l, M s = some l → l.length ≤ 1000000) :
    Calls Try.prog 10 #[.pointer (some ⟨B, 0, none⟩), .string key] W fun e W' => e = .returned (.bool (goesP M key)) ∧ Below W.heap.size W W' := by
  have e1 : wrap64 ((key.size : Int) - 12) = (key.size : Int) - 12 := by unfold wrap64; omega
  have H0 := Aside0.mk h
  clear h
  have HM := Aside0.mk hM
  clear hM
  go_enter Try.func10, Try.ntmps10
  go_wp2
  go_loopw [5] (fun i wr => ∃ z : Int, i = .int .i64 z ∧ z ≤ (key.size : Int) - 12 ∧ -1000 ≤ z ∧ Aside0 (goesP M key = goesN M key (z + 1).toNat ∧ Below W.heap.size W wr)) (fun i _ => (intOf i + 1).toNat)
  case atStart =>
    exact ⟨_, rfl, by omega, by omega, ⟨by unfold goesP; congr 1; omega, Below.refl _ _⟩⟩
  case round =>
    obtain ⟨z, rfl, hz1, hz0, H1⟩ := hrel
    by_cases hz : 0 ≤ z
    · obtain ⟨n, rfl⟩ : ∃ n : Nat, z = n := ⟨z.toNat, by omega⟩
      have hnk : n + 12 ≤ key.size := by omega
      have hle : (n : Int) ≤ (key.size : Int) := by omega
      have hd := below_drew1 (H1.out.2)
      have hF := (H0.out.below H1.out.2).below (below_drew1 (Below.refl wr.heap.size wr))
      obtain ⟨m, v, hB, hup, hyes, hno⟩ := hF.look (s := key.extract 0 n) (by unfold maxLen; rw [ByteArray.size_extract]; omega)
      have hc : wr.drew.cell? ⟨B, 0, none⟩ = some m := blk_cell hB 0
      have HY := Aside0.mk (And.intro hyes hno)
      clear hB hyes hno hF hd
      have hz1' : wrap64 ((n : Int) - 1) = (n : Int) - 1 := by unfold wrap64; omega
      have hdz : decide ((n : Int) ≥ 0) = true := decide_eq_true hz
      cases hM : M (key.extract 0 n) with
      | none =>
        rw [hM] at hup
        simp only [Option.isSome_none] at hup
        go_wp2
        go_region
        go_wp2
        refine ⟨⟨(n : Int) - 1, ?_, by omega, by omega, ⟨?_, below_drew1 H1.out.2⟩⟩, ?_⟩
        · first | rfl | exact congrArg (Value.int .i64) hz1'
        · rw [H1.out.1, show ((n : Int) + 1).toNat = n + 1 by omega, show ((n : Int) - 1 + 1).toNat = n by omega]
          show (match M (key.extract 0 n) with | some l => l.any (inSp (tl key)) | none => goesN M key n) = _
          rw [hM]
        · first | (simp only [intOf]; omega) | (rw [hz1']; simp only [intOf]; omega)
      | some l =>
        obtain ⟨A, c, rfl, hr⟩ := HY.out.1 l hM
        have hll := HM.out _ l hM
        have HR := Aside0.mk hr
        rw [hM] at hup
        simp only [Option.isSome_some] at hup
        have HG := Aside0.mk (show goesP M key = l.any (inSp (tl key)) by
          rw [H1.out.1, show ((n : Int) + 1).toNat = n + 1 by omega]
          show (match M (key.extract 0 n) with | some l => l.any (inSp (tl key)) | none => goesN M key n) = _
          rw [hM])
        clear hr
        go_wp2_with fail
        go_region
        go_wp2_with fail
        refine (dot_c _ (by omega) hs).mono ?_
        rintro e w2 ⟨rfl, hb2⟩
        have hb3 := (below_drew1 H1.out.2).trans (hb2.mono H1.out.2.size)
        have h5 := any_c ((HR.out.below hb2).below (below_alloc (Below.refl w2.heap.size w2) (.cells #[.int .u8 (bt (tl key) 0), .int .u8 (bt (tl key) 1), .int .u8 (bt (tl key) 2), .int .u8 (bt (tl key) 3), .int .u64 (dN (tl key))] 53))) c (by omega) (tl key) w2.heap.size (heap_alloc_new w2 _)
        have H5 := Aside0.mk h5
        have H3 := Aside0.mk hb3
        clear hb2 hb3 h5
        unfold dval
        go_wp2_with fail
        refine H5.out.mono ?_
        rintro e w3 ⟨rfl, hb4⟩
        have hbz := (H3.out.trans ((below_alloc (Below.refl w2.heap.size w2) (.cells #[.int .u8 (bt (tl key) 0), .int .u8 (bt (tl key) 1), .int .u8 (bt (tl key) 2), .int .u8 (bt (tl key) 3), .int .u64 (dN (tl key))] 53)).mono H3.out.size)).trans (hb4.mono (by have := H3.out.size; simp; omega))
        have HZ := Aside0.mk hbz
        clear hbz hb4
        go_wp2
        go_ret
        exact ⟨by rw [HG.out]; rfl, HZ.out⟩
    · have hdz : decide (z ≥ 0) = false := decide_eq_false (by omega)
      have hdz2 : decide (0 ≤ z) = false := decide_eq_false (by omega)
      go_wp2
      go_ret
      refine ⟨?_, H1.out.2⟩
      rw [H1.out.1, show (z + 1).toNat = 0 by omega]
      rfl

/-! ### DrN -/
/-- slices.Clone of spans. -/
theorem clone_c {W : World} {A : Option Addr} {l : List Sp} (h : Reads KS W A l) (hA : ∀ a, A = some a → ∃ g o, a = ⟨g, o, none⟩) (c : Nat) (hl : l.length ≤ 1000000) :
    Calls Try.prog 32 #[.slice A l.length c] W fun e w' => ∃ A' c', e = .returned (.slice A' l.length c') ∧ Reads KS w' A' l ∧ (∀ g o, A' = some ⟨g, o, none⟩ → W.heap.size ≤ g) ∧ Below W.heap.size W w' := by
  cases A with
  | none =>
    have hl0 : l.length = 0 := by
      rcases Nat.eq_zero_or_pos l.length with h0 | h0
      · exact h0
      · obtain ⟨g, o, e, _⟩ := h h0; cases e
    refine (AnyE.slices_Clone_nil (P := Try.prog) Try.cloneSpan l.length c W).mono ?_
    rintro e w' ⟨rfl, rfl⟩
    exact ⟨none, 0, by rw [hl0], h, fun g o e => (by cases e), Below.refl _ _⟩
  | some a =>
    obtain ⟨g, o, rfl⟩ := hA a rfl
    obtain ⟨i, z, hi, hz0, hz1, hz2, hzs⟩ := IS.info
    have hc : ∀ j u, (l.flatMap KS.enc)[j]? = some u → W.cell? ⟨g, o + j, none⟩ = some u := fun j u hu => by
      have hj := (List.getElem?_eq_some_iff.1 hu).1
      have hp : 0 < l.length := by
        rcases Nat.eq_zero_or_pos l.length with h0 | h0
        · rw [map_len, h0] at hj; simp at hj
        · exact h0
      obtain ⟨g', o', e, _, hc⟩ := h hp
      cases e
      exact hc j u hu
    have hk := AnyE.slices_Clone (P := Try.prog) Try.cloneSpan i z 6 24 hi hz0 hz1 hz2 hzs (by decide) Try.sizeOf47 g o l.length c (l.flatMap KS.enc) W (map_len l) (by unfold maxLen; omega) (by omega) hc (map_one l)
    refine hk.mono ?_
    rintro e w' ⟨v, rfl, hown, hne, hb⟩
    rcases hown.2 with ⟨h1, h2⟩ | ⟨g', c', cur, hv, hg, hbb, h3⟩
    · exact absurd h1 hne
    · subst hv
      refine ⟨_, c', rfl, Reads.of_own (K := KS) hown, fun g2 o2 e => ?_, hb⟩
      cases e
      exact hg
/-- The rules, one behind the other: for each prefix its spans; how many prefixes. -/
def stOf (rs : List Rv) : (ByteArray → Option (List Sp)) × Nat := rs.foldl (fun s r => (upd s.1 r.p r.l, if (s.1 r.p).isSome then s.2 else s.2 + 1)) (fun _ => none, 0)
theorem stOf_snoc (rs : List Rv) (r : Rv) : stOf (rs ++ [r]) = (upd (stOf rs).1 r.p r.l, if ((stOf rs).1 r.p).isSome then (stOf rs).2 else (stOf rs).2 + 1) := by
  unfold stOf; rw [List.foldl_append]; rfl
theorem stOf_le (rs : List Rv) : (stOf rs).2 ≤ rs.length := by
  have key : ∀ (rs : List Rv) (s : (ByteArray → Option (List Sp)) × Nat), (rs.foldl (fun s r => (upd s.1 r.p r.l, if (s.1 r.p).isSome then s.2 else s.2 + 1)) s).2 ≤ s.2 + rs.length := by
    intro rs
    induction rs with
    | nil => intro s; exact Nat.le_refl _
    | cons r t ih =>
      intro s
      refine Nat.le_trans (ih _) ?_
      simp only [List.length_cons]
      split <;> omega
  simpa [stOf] using key rs (fun _ => none, 0)
/-- Rules that a call reads. -/
structure Rules (W : World) (A : Option Addr) (rs : List Rv) : Prop where
  row : Reads KR W A rs
  sp : ∀ r ∈ rs, Reads KS W r.A r.l
  ad : ∀ r ∈ rs, ∀ a, r.A = some a → ∃ g o, a = ⟨g, o, none⟩
  few : ∀ r ∈ rs, r.l.length ≤ 1000000 ∧ r.p.size ≤ 1000000
theorem Rules.below {W W' : World} {A : Option Addr} {rs : List Rv} (h : Rules W A rs) (hb : Below W.heap.size W W') : Rules W' A rs :=
  ⟨h.row.below hb, fun r hr => (h.sp r hr).below hb, h.ad, h.few⟩
/-- The filter that is being filled: map at b, filter at b + 1. -/
structure FS (W : World) (wr : World) (s : (ByteArray → Option (List Sp)) × Nat) : Prop where
  box : wr.heap[W.heap.size + 1]? = some (.cells #[.map (some W.heap.size)] 28 (0, 0))
  map : MapAt wr W.heap.size s.1 s.2
  bel : Below W.heap.size W wr
theorem FS.below {W wr w' : World} {s : (ByteArray → Option (List Sp)) × Nat} (h : FS W wr s) (hb : Below wr.heap.size wr w') : FS W w' s :=
  ⟨(hb.block _ (Array.getElem?_eq_some_iff.1 h.box).1).trans h.box, h.map.below hb, h.bel.trans (hb.mono h.bel.size)⟩
set_option maxRecDepth 100000 in
set_option maxHeartbeats 8000000 in
theorem new_c {W : World} {A : Option Addr} {rs : List Rv} (h : Rules W A rs) (c : Nat) (hl : rs.length ≤ 1000000) :
    Calls Try.prog 19 #[.slice A rs.length c] W fun e W' => e = .returned (.pointer (some ⟨W.heap.size + 1, 0, none⟩)) ∧ FS W W' (stOf rs) := by
  have HR := Aside0.mk h
  clear h
  have H0 : Aside0 (FS W ((W.alloc (.map #[] 0)).alloc (.cells #[.map (some W.heap.size)] 28)) (stOf [])) := by
    refine ⟨⟨by have := heap_alloc_new (W.alloc (.map #[] 0)) (.cells #[.map (some W.heap.size)] 28); simpa using this, ?_, below_alloc (below_alloc (Below.refl _ _) _) _⟩⟩
    refine MapAt.below (W := W.alloc (.map #[] 0)) ⟨_, World.ownsMap_made W _ _ _, rfl, fun s _ => rfl, fun s l hl => by cases hl⟩ (below_alloc (Below.refl _ _) _)
  go_enter Try.func19, Try.ntmps19
  have hmm := @run_makeMap Try.prog
  go_wp2
  clear hmm
  go_loopw [11] (fun i wr => ∃ k : Nat, k ≤ rs.length ∧ i = .int .i64 k ∧ Aside0 (FS W wr (stOf (rs.take k)))) (fun i _ => rs.length - (intOf i).toNat)
  case atStart => exact ⟨0, Nat.zero_le _, rfl, H0⟩
  case round =>
    obtain ⟨k, hk, rfl, H1⟩ := hrel
    by_cases hlt : k < rs.length
    · obtain ⟨r, hr⟩ : ∃ r, rs[k]? = some r := ⟨_, List.getElem?_eq_getElem hlt⟩
      have hrm : r ∈ rs := List.mem_of_getElem? hr
      obtain ⟨g, o, rfl, hg⟩ := HR.out.row.where hlt
      have hRk := HR.out.below H1.out.bel
      have c0 : wr.cell? ⟨g, o + k * 2, none⟩ = some (.string r.p) := hRk.row.at hr (i := 0) rfl
      have c1 : wr.cell? ⟨g, o + k * 2 + 1, none⟩ = some (.slice r.A r.l.length r.c) := hRk.row.at hr (i := 1) rfl
      have hwk := Aside0.mk (show wrap64 ((k : Int) + 1) = (k : Int) + 1 by unfold wrap64; omega)
      have htk : rs.take (k + 1) = rs.take k ++ [r] := by rw [List.take_add_one, hr]; rfl
      have hle := stOf_le (rs.take k)
      rw [List.length_take, Nat.min_eq_left hk] at hle
      have hb1 := below_alloc (Below.refl wr.heap.size wr) (.cells #[.string r.p, .slice r.A r.l.length r.c] 57)
      have hF1 := H1.out.below hb1
      have hfew := HR.out.few r hrm
      have hsp := (hRk.below hb1).sp r hrm
      have had := HR.out.ad r hrm
      have LD := Aside0.mk (show ∀ w' : World, Below (wr.heap.size + 1) (wr.alloc (.cells #[.string r.p, .slice r.A r.l.length r.c] 57)) w' → w'.cell? ⟨W.heap.size + 1, 0, none⟩ = some (.map (some W.heap.size)) ∧ w'.cell? ⟨wr.heap.size, 0, none⟩ = some (.string r.p) ∧ w'.cell? ⟨wr.heap.size, 1, none⟩ = some (.slice r.A r.l.length r.c) by
        intro w' hb
        have h1 := (hF1.below (by simpa using hb)).box
        have h2 : w'.heap[wr.heap.size]? = _ := (hb.block wr.heap.size (by omega)).trans (heap_alloc_new wr _)
        exact ⟨blk_cell h1 0, blk_cell h2 0, blk_cell h2 1⟩)
      have LE := Aside0.mk (show ∀ w' : World, Below (wr.heap.size + 1) (wr.alloc (.cells #[.string r.p, .slice r.A r.l.length r.c] 57)) w' → ∀ (A' : Option Addr) (c' : Nat), Reads KS w' A' r.l → (∀ g o, A' = some ⟨g, o, none⟩ → wr.heap.size ≤ g) →
          ∃ w7, (Instr.mapUpdate 26 (.map (some W.heap.size)) (.string r.p) (.slice A' r.l.length c')).run Try.prog w' = .ok () w7 ∧ Aside0 (FS W w7 (stOf (rs.take (k + 1)))) by
        intro w' hb A' c' hr' hg'
        have hF2 := hF1.below (by simpa using hb)
        have hlt7 : W.heap.size < wr.heap.size := by have := (Array.getElem?_eq_some_iff.1 H1.out.box).1; omega
        obtain ⟨w7, hup, hm7, hg7⟩ := hF2.map.put (p := r.p) (l := r.l) (A := A') (c := c') (by unfold maxLen; omega) (by unfold maxLen; omega) hr' (fun g o e => by have := hg' g o e; omega)
        refine ⟨w7, hup, ⟨?_⟩⟩
        rw [htk, stOf_snoc]
        refine ⟨(hg7.block _ (Array.getElem?_eq_some_iff.1 hF2.box).1 (by simp)).trans hF2.box, hm7, hF2.bel.grown hg7 ?_ ?_⟩
        · have := hF2.bel.size; omega
        · intro k' hk'; cases hk'; exact Nat.le_refl _)
      have hcl : strings_Clone.f r.p = some r.p := by unfold strings_Clone.f; rw [if_pos (by omega)]
      obtain ⟨l0, l1, l2⟩ := LD.out ((wr.alloc (.cells #[.string r.p, .slice r.A r.l.length r.c] 57)).drew) (below_drew1 (Below.refl _ _))
      have HS := Aside0.mk (And.intro hsp (And.intro had hfew.1))
      clear hb1 hF1 hfew hsp had hRk hrm htk hle hr
      go_wp2
      go_region_with (first
        | (go_at_call 33; refine (strings_Clone.calls r.p r.p _ hcl).mono ?_; rintro e w5 ⟨rfl, hb5⟩; obtain ⟨l3, l4, l5⟩ := LD.out w5 ((below_drew1 (Below.refl (wr.heap.size + 1) _)).trans (hb5.mono (by simp))))
        | (go_at_call 32; refine (clone_c ((HS.out.1.below (below_drew1 (Below.refl _ _))).below hb5) HS.out.2.1 r.c HS.out.2.2).mono ?_; rintro e w6 ⟨A6, c6, rfl, hr6, hg6, hb6⟩; obtain ⟨l6, l7, l8⟩ := LD.out w6 (((below_drew1 (Below.refl (wr.heap.size + 1) _)).trans (hb5.mono (by simp))).trans (hb6.mono (by have := hb5.size; simp at this; omega))); obtain ⟨w7, hup, H7⟩ := LE.out w6 (((below_drew1 (Below.refl (wr.heap.size + 1) _)).trans (hb5.mono (by simp))).trans (hb6.mono (by have := hb5.size; simp at this; omega))) A6 c6 hr6 (fun g o e => by have := hg6 g o e; have := hb5.size; simp at this; omega)))
      all_goals
        go_wp2
        exact ⟨⟨k + 1, Nat.succ_le_of_lt hlt, by first | exact iw_succ k | exact iv_succ hwk.out, H7⟩, by first | exact iw_meas hlt | exact iv_meas hwk.out hlt⟩
    · have hkl : k = rs.length := by omega
      subst hkl
      have hd1 : decide ((rs.length : Int) < (rs.length : Int)) = false := decide_eq_false (Int.lt_irrefl _)
      go_wp2
      go_ret
      refine ⟨rfl, ?_⟩
      have := H1.out
      rw [List.take_length] at this
      exact this
end Go.Proofs.Ytdfaoafeojoceaa.Dr
