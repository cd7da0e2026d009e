/- Spans: walked. -/
import Derived.Test.YthljboogcjpgiaaDotNew
import Derived.Test.YthljboogcjpgiaaPAllx1
set_option linter.unusedSimpArgs false
set_option linter.unusedVariables false
namespace Go.Proofs.Ythljboogcjpgiaa.Ds
open Go.RowKit Go.Maps Go.Sort Go.Shelf Go.Proofs.Ythljboogcjpgiaa.PAll Go.Proofs.YthljboogcjpgiaaW.PrintWords
attribute [local go_sem] put_fresh

abbrev Sp := S45
def scells (y : Sp) : List Value := [.int .u8 y.f0.f0, .int .u8 y.f0.f1, .int .u8 y.f0.f2, .int .u8 y.f0.f3, .int .u64 y.f1, .int .u64 y.f2]
theorem scells_length (y : Sp) : (scells y).length = 6 := rfl
theorem scells_one (y : Sp) : ∀ v ∈ scells y, v.oneCell' = true := by
  intro v hv
  simp only [scells, List.mem_cons, List.not_mem_nil, or_false] at hv
  rcases hv with rfl | rfl | rfl | rfl | rfl | rfl <;> rfl
theorem smap_len : ∀ (S : List Sp), (S.flatMap scells).length = S.length * 6
  | [] => rfl
  | x :: r => by rw [List.flatMap_cons, List.length_append, scells_length, smap_len r, List.length_cons]; omega
def newSp (x : Dt) : Sp := ⟨x.f0, x.f1, x.f1⟩
def joins (y : Sp) (x : Dt) : Bool := y.f0.f0 == x.f0.f0 && y.f0.f1 == x.f0.f1 && y.f0.f2 == x.f0.f2 && y.f0.f3 == x.f0.f3 && y.f2 != 18446744073709551615 && y.f2 + 1 == x.f1
/-- One dot more; the spans stand the wrong way round: the last one first. -/
def stepR (S : List Sp) (x : Dt) : List Sp := match S with
  | [] => [newSp x]
  | y :: r => if joins y x then ⟨y.f0, y.f1, x.f1⟩ :: r else newSp x :: y :: r
def spansR (L : List Vd) : List Sp := L.foldl (fun S x => stepR S x.1) []
def spansOf (L : List Vd) : List Sp := (spansR L).reverse
theorem spansR_snoc (L : List Vd) (x : Vd) : spansR (L ++ [x]) = stepR (spansR L) x.1 := by simp [spansR]

theorem stepR_range {S : List Sp} (x : Vd) (h : ∀ y ∈ S, 0 ≤ y.f2 ∧ y.f2 < 18446744073709551616) : ∀ y ∈ stepR S x.1, 0 ≤ y.f2 ∧ y.f2 < 18446744073709551616 := by
  intro y hy
  unfold stepR at hy
  split at hy
  · simp only [List.mem_cons, List.not_mem_nil, or_false] at hy
    subst hy
    exact x.2.n
  · rename_i z r
    split at hy
    · rcases List.mem_cons.1 hy with rfl | hy
      · exact x.2.n
      · exact h y (List.mem_cons_of_mem _ hy)
    · rcases List.mem_cons.1 hy with rfl | hy
      · exact x.2.n
      · exact h y hy
theorem spansR_range_of : ∀ (L : List Vd) (S : List Sp), (∀ y ∈ S, 0 ≤ y.f2 ∧ y.f2 < 18446744073709551616) → ∀ y ∈ L.foldl (fun S x => stepR S x.1) S, 0 ≤ y.f2 ∧ y.f2 < 18446744073709551616
  | [], _, h => h
  | x :: L, _, h => spansR_range_of L _ (stepR_range x h)
theorem spansR_range (L : List Vd) : ∀ y ∈ spansR L, 0 ≤ y.f2 ∧ y.f2 < 18446744073709551616 := spansR_range_of L [] (fun _ h => by cases h)
theorem wrap_u64_succ {n : Int} (h0 : 0 ≤ n ∧ n < 18446744073709551616) (h : ¬ n = 18446744073709551615) : IntKind.u64.wrap (n + 1) = n + 1 := by
  simp [IntKind.wrap, IntKind.bits, IntKind.signed]
  omega
theorem stepR_ne (S : List Sp) (x : Dt) : stepR S x ≠ [] := by
  unfold stepR
  split
  · simp
  · split <;> simp
theorem spansR_nil (L : List Vd) : spansR L = [] ↔ L = [] := by
  constructor
  · intro h
    rcases List.eq_nil_or_concat L with rfl | ⟨L', x, rfl⟩
    · rfl
    · rw [List.concat_eq_append, spansR_snoc] at h
      exact absurd h (stepR_ne _ _)
  · rintro rfl; rfl
theorem info_span : (Try.prog.info? 45).map (fun i => (i.zero, i.size, i.bytes)) = some (some (.agg #[.int .u8 0, .int .u8 0, .int .u8 0, .int .u8 0, .int .u64 0, .int .u64 0]), 6, 24) := by kernel_rfl

/-- The last span's end is written anew. -/
theorem ownsRow_setEnd {w : World} {base gb cap : Nat} {e : TypeId} {R : List Sp} {y : Sp} {t : Int} (h : w.ownsRow base e 6 (.slice (some ⟨gb, 0, none⟩) (R.length + 1 : Nat) cap) (R.length + 1) ((R ++ [y]).flatMap scells)) :
    (w.setCell ⟨gb, R.length * 6 + 5, none⟩ (.int .u64 t)).ownsRow base e 6 (.slice (some ⟨gb, 0, none⟩) (R.length + 1 : Nat) cap) (R.length + 1) ((R ++ [(⟨y.f0, y.f1, t⟩ : Sp)]).flatMap scells) := by
  refine ⟨by rw [smap_len]; simp, .inr ?_⟩
  rcases h.2 with ⟨h0, _⟩ | ⟨g', cap', cur, hv, hg, hb, hn, hc, hz, ht⟩
  · cases h0
  · cases hv
    refine ⟨gb, cap, cur.setIfInBounds (R.length * 6 + 5) (.int .u64 t), rfl, hg, by simp [World.setCell, Array.getElem?_modify, hb], hn, hc, by simpa using hz, ?_⟩
    rw [Array.toList_setIfInBounds, List.take_set, ht, List.flatMap_append, List.flatMap_append, List.set_append_right _ _ (by rw [smap_len]; omega), smap_len]
    congr 1
    rw [show R.length * 6 + 5 - R.length * 6 = 5 by omega]
    simp [scells]

theorem eq_actor (w : World) (x0 x1 x2 x3 y0 y1 y2 y3 : Int) : (binOp .eql 23 (.agg #[.int .u8 x0, .int .u8 x1, .int .u8 x2, .int .u8 x3]) (.agg #[.int .u8 y0, .int .u8 y1, .int .u8 y2, .int .u8 y3])).run Try.prog w = .ok (.bool (x0 == y0 && (x1 == y1 && (x2 == y2 && (x3 == y3))))) w := by
  have h := eqA23 9998 w x0 y0 x1 y1 x2 y2 x3 y3
  simp only [binOp]
  simp [Op.equal, Op.maxDepth, h]
theorem wrap_nat (n : Nat) (h : n < 4611686018427387904) : wrap64 (n : Int) = n := by unfold wrap64; omega
theorem wrap_nat1 (n : Nat) (h : n < 4611686018427387904) : wrap64 ((n : Int) + 1 - 1) = n := by rw [Int.add_sub_cancel]; exact wrap_nat n h
theorem wrap_k (k n : Nat) (h : k < n) (h2 : n * 24 ≤ 140737488355328) : wrap64 ((k : Int) + 1) = (k : Int) + 1 := by
  have := wrap_nat (k + 1) (by omega)
  simpa using this
theorem iv_succ {k : Nat} (h : wrap64 ((k : Int) + 1) = (k : Int) + 1) : Value.int .i64 (wrap64 ((k : Int) + 1)) = Value.int .i64 ((k + 1 : Nat) : Int) := congrArg (Value.int .i64) (h.trans (by omega))
theorem iv_meas {k n : Nat} (h : wrap64 ((k : Int) + 1) = (k : Int) + 1) (hk : k < n) : n - (intOf (Value.int .i64 (wrap64 ((k : Int) + 1)))).toNat < n - (intOf (Value.int .i64 (k : Int))).toNat := by
  rw [h]; simp only [intOf]; omega
theorem drow_owns {W : World} {base : Nat} {v : Value} {L : List Vd} (h : W.ownsRow base 26 5 v L.length (L.flatMap venc)) : DRow W v L (fun q => q < base) := by
  rcases h.2 with ⟨rfl, hz⟩ | ⟨g, cap, cur, rfl, hg, hb, hn, hc, hz, ht⟩
  · exact ⟨none, 0, by rw [hz], fun hne => absurd (List.eq_nil_of_length_eq_zero hz) hne⟩
  · refine ⟨some ⟨g, 0, none⟩, cap, rfl, fun _ => ⟨g, 0, rfl, (Array.getElem?_eq_some_iff.1 hb).1, by omega, fun j x hx c hc5 => ?_⟩⟩
    have hj : j < L.length := (List.getElem?_eq_some_iff.1 hx).1
    have h1 := flatMap_get L (j * 5 + c) (by omega)
    rw [show (j * 5 + c) / 5 = j by omega, show (j * 5 + c) % 5 = c by omega] at h1
    have h2 : L.toArray[j]! = x := by
      obtain ⟨_, e⟩ := List.getElem?_eq_some_iff.1 hx
      rw [getElem!_pos L.toArray j (by simpa using hj)]
      simpa using e
    rw [h2, ← ht, List.getElem?_take_of_lt (by omega)] at h1
    rw [blk_cell hb, Nat.zero_add, ← Array.getElem?_toList]
    exact h1
set_option maxRecDepth 100000 in
set_option maxHeartbeats 8000000 in
theorem spans_c (B b n : Nat) (L : List Vd) (W : World) (hS : SetAt W B b n L) (hL : L.length * 24 ≤ 140737488355328) :
    Calls Try.prog 21 #[.pointer (some ⟨B, 0, none⟩)] W fun e W' => ∃ v, e = .returned v ∧ W'.ownsRow W.heap.size 45 6 v (spansOf L).length ((spansOf L).flatMap scells) ∧ (v = .slice none 0 0 ↔ L = []) ∧ Below W.heap.size W W' := by
  have hl := list_c B b n L W hS (by omega)
  obtain ⟨i0, hi, hz0, hz1, hz2⟩ := info_parts info_span
  have hu26 := Try.underlying26
  have hu45 := Try.underlying45
  go_enter Try.func21, Try.ntmps21
  go_wp2_with (go_at_call 24; refine hl.mono ?_; rintro e W1 ⟨v, rfl, hrow, hnil, hB1⟩)
  obtain ⟨p, cap, rfl, hcells⟩ := drow_owns hrow
  go_wp2
  go_loopw [3, 10] (fun vo i wr => ∃ k : Nat, k ≤ L.length ∧ i = .int .i64 k ∧ wr.ownsRow W1.heap.size 45 6 vo (spansR (L.take k)).length ((spansR (L.take k)).reverse.flatMap scells) ∧ (vo = .slice none 0 0 ↔ spansR (L.take k) = []) ∧ (spansR (L.take k)).length ≤ k ∧ Below W1.heap.size W1 wr) (fun _ i _ => L.length - (intOf i).toNat)
  case atStart =>
    exact ⟨0, Nat.zero_le _, rfl, World.ownsRow_nil _ _ _ _, by simp [spansR], Nat.le_refl _, Below.refl _ _⟩
  case round =>
    obtain ⟨k, hk, rfl, hown, hnl, hSk, hBr⟩ := hrel
    by_cases hlt : k < L.length
    · obtain ⟨q, off, rfl, hq, hno, hcx0⟩ := hcells (by intro e; simp [e] at hlt)
      obtain ⟨x, hx⟩ : ∃ x, L[k]? = some x := ⟨_, List.getElem?_eq_getElem hlt⟩
      have hcx : ∀ c, c < 5 → wr.cell? ⟨q, off + k * 5 + c, none⟩ = (venc x)[c]? := fun c hc => (World.cell?_of_block (hBr.block q hq)).trans (hcx0 k x hx c hc)
      have e0 : wr.cell? ⟨q, off + k * 5, none⟩ = some (.int .u8 x.1.f0.f0) := hcx 0 (by decide)
      have e1 : wr.cell? ⟨q, off + k * 5 + 1, none⟩ = some (.int .u8 x.1.f0.f1) := hcx 1 (by decide)
      have e2 : wr.cell? ⟨q, off + k * 5 + 2, none⟩ = some (.int .u8 x.1.f0.f2) := hcx 2 (by decide)
      have e3 : wr.cell? ⟨q, off + k * 5 + 3, none⟩ = some (.int .u8 x.1.f0.f3) := hcx 3 (by decide)
      have e4 : wr.cell? ⟨q, off + k * 5 + 4, none⟩ = some (.int .u64 x.1.f1) := hcx 4 (by decide)
      clear hcx
      have hlti : (k : Int) < (L.length : Int) := by omega
      have hwk := wrap_k k L.length hlt hL
      have hd1 : decide ((k : Int) < (L.length : Int)) = true := decide_eq_true hlti
      have htk : L.take (k + 1) = L.take k ++ [x] := by rw [List.take_add_one, hx]; rfl
      have hbx : (wr.alloc (.cells #[.int .u8 x.1.f0.f0, .int .u8 x.1.f0.f1, .int .u8 x.1.f0.f2, .int .u8 x.1.f0.f3, .int .u64 x.1.f1] 26)).drew.heap[wr.heap.size]? = some (.cells #[.int .u8 x.1.f0.f0, .int .u8 x.1.f0.f1, .int .u8 x.1.f0.f2, .int .u8 x.1.f0.f3, .int .u64 x.1.f1] 26) := heap_alloc_new wr _
      have hx0 : (wr.alloc (.cells #[.int .u8 x.1.f0.f0, .int .u8 x.1.f0.f1, .int .u8 x.1.f0.f2, .int .u8 x.1.f0.f3, .int .u64 x.1.f1] 26)).drew.cell? ⟨wr.heap.size, 0, none⟩ = some (.int .u8 x.1.f0.f0) := blk_cell hbx 0
      have hx1 : (wr.alloc (.cells #[.int .u8 x.1.f0.f0, .int .u8 x.1.f0.f1, .int .u8 x.1.f0.f2, .int .u8 x.1.f0.f3, .int .u64 x.1.f1] 26)).drew.cell? ⟨wr.heap.size, 1, none⟩ = some (.int .u8 x.1.f0.f1) := blk_cell hbx 1
      have hx2 : (wr.alloc (.cells #[.int .u8 x.1.f0.f0, .int .u8 x.1.f0.f1, .int .u8 x.1.f0.f2, .int .u8 x.1.f0.f3, .int .u64 x.1.f1] 26)).drew.cell? ⟨wr.heap.size, 2, none⟩ = some (.int .u8 x.1.f0.f2) := blk_cell hbx 2
      have hx3 : (wr.alloc (.cells #[.int .u8 x.1.f0.f0, .int .u8 x.1.f0.f1, .int .u8 x.1.f0.f2, .int .u8 x.1.f0.f3, .int .u64 x.1.f1] 26)).drew.cell? ⟨wr.heap.size, 3, none⟩ = some (.int .u8 x.1.f0.f3) := blk_cell hbx 3
      have hx4 : (wr.alloc (.cells #[.int .u8 x.1.f0.f0, .int .u8 x.1.f0.f1, .int .u8 x.1.f0.f2, .int .u8 x.1.f0.f3, .int .u64 x.1.f1] 26)).drew.cell? ⟨wr.heap.size, 4, none⟩ = some (.int .u64 x.1.f1) := blk_cell hbx 4
      have hmx : 4611686018427387904 ≤ maxLen := by decide
      have hBs := hBr.size
      cases hR : spansR (L.take k) with
      | nil =>
        obtain rfl := hnl.2 hR
        have hw1 : wrap64 ((0 : Int) - 1) = -1 := by unfold wrap64; omega
        go_wp2
        go_region
        go_upto_region 8 with (fail)
        obtain ⟨wd, hwd⟩ : ∃ wd, wd = (wr.alloc (.cells #[.int .u8 x.1.f0.f0, .int .u8 x.1.f0.f1, .int .u8 x.1.f0.f2, .int .u8 x.1.f0.f3, .int .u64 x.1.f1] 26)).drew := ⟨_, rfl⟩
        have hBd : Below W1.heap.size W1 wd := by
          subst hwd
          exact ⟨hBr.os, hBr.tape, hBr.output, Nat.le_trans hBr.size (by simp), fun j hj => (heap_alloc_old _ _ _ (by omega)).trans (hBr.block j hj)⟩
        rw [← hwd] at hx0 hx1 hx2 hx3 hx4 hbx ⊢
        clear hwd
        have hsp : ∀ j u, (scells (newSp x.1))[j]? = some u → (wd.alloc (.cells #[.int .u8 x.1.f0.f0, .int .u8 x.1.f0.f1, .int .u8 x.1.f0.f2, .int .u8 x.1.f0.f3, .int .u64 x.1.f1, .int .u64 x.1.f1] 45)).cell? ((⟨wd.heap.size, 0, none⟩ : Addr).add j) = some u := fun j u hj => by
          simp only [add_plain, Nat.zero_add]
          refine (cells_fresh wd _ _ j).trans ?_
          show (scells (newSp x.1)).toArray[j]? = some u
          simpa using hj
        have HSP := Aside0.mk hsp
        clear hsp
        have X0 := Aside0.mk (And.intro hx (And.intro htk (And.intro hR (And.intro hBr (And.intro hrow (And.intro hnil (And.intro hB1 hBd)))))))
        clear hx htk hR hBr hrow hnil hBd hcx0 hown hnl hS hl hbx e0 e1 e2 e3 e4 hB1 hd1
        go_wp2_with (first | (at_builtin; refine wpList_append_own _ rfl _ _ 42 rfl W1.heap.size 45 i0 (.agg #[.int .u8 0, .int .u8 0, .int .u8 0, .int .u8 0, .int .u64 0, .int .u64 0]) 6 24 Try.underlying42 hi hz0 hz1 hz2 rfl (by decide) (.slice none 0 0) 0 [] rfl (World.ownsRow_nil _ _ _ _) ⟨wd.heap.size, 0, none⟩ 1 1 (scells (newSp x.1)) rfl rfl HSP.out (scells_one _) (by omega) (by omega) (by have := X0.out.2.2.2.2.2.2.2.size; simp; omega) ?_; intro v' w1 hown' hgrow hnl') | go_in)
        have hR2 : spansR (L.take (k + 1)) = [newSp x.1] := by rw [X0.out.2.1, spansR_snoc, X0.out.2.2.1]; rfl
        refine ⟨⟨k + 1, by omega, by simp, ?_, ?_, ?_, ?_⟩, by simp [intOf]; omega⟩
        · rw [hR2]; simpa using hown'
        · rw [hR2, hnl']; simp
        · rw [hR2]; simp
        · exact (below_alloc X0.out.2.2.2.2.2.2.2 _).grown hgrow (by have := X0.out.2.2.2.2.2.2.2.size; simp; omega) (fun j hj => by cases hj)
      | cons y r =>
        rw [hR, List.length_cons] at hown hSk
        obtain ⟨gb, scap, rfl⟩ := ownsRow_succ hown
        have hxs : (y :: r).reverse.flatMap scells = r.reverse.flatMap scells ++ scells y := by simp
        have hyc : ∀ c, c < 6 → (wr.alloc (.cells #[.int .u8 x.1.f0.f0, .int .u8 x.1.f0.f1, .int .u8 x.1.f0.f2, .int .u8 x.1.f0.f3, .int .u64 x.1.f1] 26)).drew.cell? ⟨gb, r.length * 6 + c, none⟩ = (scells y)[c]? ∧ (wr.alloc (.cells #[.int .u8 x.1.f0.f0, .int .u8 x.1.f0.f1, .int .u8 x.1.f0.f2, .int .u8 x.1.f0.f3, .int .u64 x.1.f1] 26)).drew.frozen? ⟨gb, r.length * 6 + c, none⟩ = false ∧ W1.heap.size ≤ gb ∧ gb < wr.heap.size := by
          intro c hc
          rcases hown.2 with ⟨h0, _⟩ | ⟨g', cap', cur, hv, hg, hb, hn, hcp, hz, ht⟩
          · cases h0
          · cases hv
            have hgl : gb < wr.heap.size := (Array.getElem?_eq_some_iff.1 hb).1
            have hb2 : (wr.alloc (.cells #[.int .u8 x.1.f0.f0, .int .u8 x.1.f0.f1, .int .u8 x.1.f0.f2, .int .u8 x.1.f0.f3, .int .u64 x.1.f1] 26)).drew.heap[gb]? = some (.cells cur 45 (0, 0)) := (heap_alloc_old _ _ _ hgl).trans hb
            refine ⟨?_, blk_frozen hb2 _, hg, hgl⟩
            rw [blk_cell hb2, ← Array.getElem?_toList]
            have h1 : (cur.toList.take ((r.length + 1) * 6))[r.length * 6 + c]? = ((y :: r).reverse.flatMap scells)[r.length * 6 + c]? := by rw [ht]
            rw [List.getElem?_take_of_lt (by omega), hxs, List.getElem?_append_right (by rw [smap_len]; simp), smap_len] at h1
            rw [h1, List.length_reverse, Nat.add_sub_cancel_left]
        have hy0 : (wr.alloc (.cells #[.int .u8 x.1.f0.f0, .int .u8 x.1.f0.f1, .int .u8 x.1.f0.f2, .int .u8 x.1.f0.f3, .int .u64 x.1.f1] 26)).drew.cell? ⟨gb, r.length * 6, none⟩ = some (.int .u8 y.f0.f0) := (hyc 0 (by decide)).1
        have hy1 : (wr.alloc (.cells #[.int .u8 x.1.f0.f0, .int .u8 x.1.f0.f1, .int .u8 x.1.f0.f2, .int .u8 x.1.f0.f3, .int .u64 x.1.f1] 26)).drew.cell? ⟨gb, r.length * 6 + 1, none⟩ = some (.int .u8 y.f0.f1) := (hyc 1 (by decide)).1
        have hy2 : (wr.alloc (.cells #[.int .u8 x.1.f0.f0, .int .u8 x.1.f0.f1, .int .u8 x.1.f0.f2, .int .u8 x.1.f0.f3, .int .u64 x.1.f1] 26)).drew.cell? ⟨gb, r.length * 6 + 2, none⟩ = some (.int .u8 y.f0.f2) := (hyc 2 (by decide)).1
        have hy3 : (wr.alloc (.cells #[.int .u8 x.1.f0.f0, .int .u8 x.1.f0.f1, .int .u8 x.1.f0.f2, .int .u8 x.1.f0.f3, .int .u64 x.1.f1] 26)).drew.cell? ⟨gb, r.length * 6 + 3, none⟩ = some (.int .u8 y.f0.f3) := (hyc 3 (by decide)).1
        have hy4 : (wr.alloc (.cells #[.int .u8 x.1.f0.f0, .int .u8 x.1.f0.f1, .int .u8 x.1.f0.f2, .int .u8 x.1.f0.f3, .int .u64 x.1.f1] 26)).drew.cell? ⟨gb, r.length * 6 + 4, none⟩ = some (.int .u64 y.f1) := (hyc 4 (by decide)).1
        have hy5 : (wr.alloc (.cells #[.int .u8 x.1.f0.f0, .int .u8 x.1.f0.f1, .int .u8 x.1.f0.f2, .int .u8 x.1.f0.f3, .int .u64 x.1.f1] 26)).drew.cell? ⟨gb, r.length * 6 + 5, none⟩ = some (.int .u64 y.f2) := (hyc 5 (by decide)).1
        have hgb := (hyc 0 (by decide)).2.2
        have hyf := (hyc 5 (by decide)).2.1
        have X1 := Aside0.mk (And.intro hown hxs)
        clear hyc hown hxs
        have hrl : r.length < 4611686018427387904 := by omega
        have hw0 : wrap64 (r.length : Int) = r.length := wrap_nat _ hrl
        have hw1 : wrap64 ((r.length : Int) + 1 - 1) = r.length := wrap_nat1 _ hrl
        have hw2 : decide ((0 : Int) ≤ (r.length : Int)) = true := decide_eq_true (Int.natCast_nonneg _)
        have hBd : Below W1.heap.size W1 (wr.alloc (.cells #[.int .u8 x.1.f0.f0, .int .u8 x.1.f0.f1, .int .u8 x.1.f0.f2, .int .u8 x.1.f0.f3, .int .u64 x.1.f1] 26)).drew := ⟨hBr.os, hBr.tape, hBr.output, Nat.le_trans hBr.size (by simp), fun j hj => (heap_alloc_old _ _ _ (Nat.lt_of_lt_of_le hj hBs)).trans (hBr.block j hj)⟩
        have X2 := Aside0.mk (And.intro hx (And.intro htk (And.intro hR (And.intro hBr (And.intro hrow hnil)))))
        have X3 := Aside0.mk (And.intro (show ((wr.alloc (.cells #[.int .u8 x.1.f0.f0, .int .u8 x.1.f0.f1, .int .u8 x.1.f0.f2, .int .u8 x.1.f0.f3, .int .u64 x.1.f1] 26)).drew).ownsRow W1.heap.size 45 6 (.slice (some ⟨gb, 0, none⟩) (r.length + 1 : Nat) scap) (r.length + 1) ((y :: r).reverse.flatMap scells) from X1.out.1.alloc _) hBd)
        clear hx htk hR hBr hrow hnil hcx0 hnl hS hl hbx hB1 hBd
        have hmxA := Aside0.mk (And.intro hmx (And.intro hrl (And.intro hL (And.intro hSk hgb))))
        clear hmx hrl hL hSk
        go_upto_region 6 with (fail)
        clear e0 e1 e2 e3 e4 hd1
        have hwdb : (wr.alloc (.cells #[.int .u8 x.1.f0.f0, .int .u8 x.1.f0.f1, .int .u8 x.1.f0.f2, .int .u8 x.1.f0.f3, .int .u64 x.1.f1] 26)).heap.size = wr.heap.size + 1 := by simp
        generalize (wr.alloc (.cells #[.int .u8 x.1.f0.f0, .int .u8 x.1.f0.f1, .int .u8 x.1.f0.f2, .int .u8 x.1.f0.f3, .int .u64 x.1.f1] 26)) = wd at *
        generalize hD : wr.heap.size = D at *
        generalize hrl2 : r.length * 6 = o at *
        cases hj : joins y x.1 with
        | true =>
          have hJ : (y.f0.f0 = x.1.f0.f0 ∧ y.f0.f1 = x.1.f0.f1 ∧ y.f0.f2 = x.1.f0.f2 ∧ y.f0.f3 = x.1.f0.f3) ∧ ¬ y.f2 = 18446744073709551615 ∧ y.f2 + 1 = x.1.f1 := by
            unfold joins at hj
            simp only [Bool.and_eq_true, beq_iff_eq, bne_iff_ne] at hj
            obtain ⟨⟨⟨⟨⟨a, b⟩, c⟩, d⟩, e⟩, f⟩ := hj
            exact ⟨⟨a, b, c, d⟩, e, f⟩
          have hq : ∀ w, (binOp .eql 23 (.agg #[.int .u8 y.f0.f0, .int .u8 y.f0.f1, .int .u8 y.f0.f2, .int .u8 y.f0.f3]) (.agg #[.int .u8 x.1.f0.f0, .int .u8 x.1.f0.f1, .int .u8 x.1.f0.f2, .int .u8 x.1.f0.f3])).run Try.prog w = .ok (.bool true) w := fun w => by
            rw [eq_actor]; simp [hJ.1.1, hJ.1.2.1, hJ.1.2.2.1, hJ.1.2.2.2]
          have hwN : IntKind.u64.wrap (y.f2 + 1) = y.f2 + 1 := wrap_u64_succ (spansR_range _ y (by rw [X2.out.2.2.1]; exact List.mem_cons_self)) hJ.2.1
          have hM1 : (y.f2 != 18446744073709551615) = true := by simpa using hJ.2.1
          have hM2 : (y.f2 == 18446744073709551615) = false := by simpa using hJ.2.1
          have hN1 : (y.f2 + 1 == x.1.f1) = true := by simpa using hJ.2.2
          have X4 := Aside0.mk (And.intro hj hJ)
          clear hj hJ
          go_region
          go_wp2
          have hR2 : spansR (L.take (k + 1)) = ⟨y.f0, y.f1, x.1.f1⟩ :: r := by rw [X2.out.2.1, spansR_snoc, X2.out.2.2.1]; simp [stepR, X4.out.1]
          refine ⟨⟨k + 1, Nat.succ_le_of_lt hlt, iv_succ hwk, ?_, ?_, ?_, ?_⟩, iv_meas hwk hlt⟩
          · rw [hR2]
            have h := ownsRow_setEnd (t := x.1.f1) (R := r.reverse) (y := y) (by simpa using X3.out.1)
            rw [List.length_reverse, hrl2] at h
            have h2 : ((wd.setCell ⟨gb, o + 5, none⟩ (.int .u64 x.1.f1)).drew).ownsRow W1.heap.size 45 6 (.slice (some ⟨gb, 0, none⟩) (r.length + 1 : Nat) scap) (r.length + 1) ((r.reverse ++ [(⟨y.f0, y.f1, x.1.f1⟩ : Sp)]).flatMap scells) := h
            simpa using h2
          · rw [hR2]; simp
          · rw [hR2]; have := hmxA.out.2.2.2.1; simp; omega
          · exact X3.out.2.setCell hgb.1 _
        | false =>
          have key : (∀ w, (binOp .eql 23 (.agg #[.int .u8 y.f0.f0, .int .u8 y.f0.f1, .int .u8 y.f0.f2, .int .u8 y.f0.f3]) (.agg #[.int .u8 x.1.f0.f0, .int .u8 x.1.f0.f1, .int .u8 x.1.f0.f2, .int .u8 x.1.f0.f3])).run Try.prog w = .ok (.bool false) w) ∨ ((∀ w, (binOp .eql 23 (.agg #[.int .u8 y.f0.f0, .int .u8 y.f0.f1, .int .u8 y.f0.f2, .int .u8 y.f0.f3]) (.agg #[.int .u8 x.1.f0.f0, .int .u8 x.1.f0.f1, .int .u8 x.1.f0.f2, .int .u8 x.1.f0.f3])).run Try.prog w = .ok (.bool true) w) ∧ y.f2 = 18446744073709551615) ∨ ((∀ w, (binOp .eql 23 (.agg #[.int .u8 y.f0.f0, .int .u8 y.f0.f1, .int .u8 y.f0.f2, .int .u8 y.f0.f3]) (.agg #[.int .u8 x.1.f0.f0, .int .u8 x.1.f0.f1, .int .u8 x.1.f0.f2, .int .u8 x.1.f0.f3])).run Try.prog w = .ok (.bool true) w) ∧ ¬ y.f2 = 18446744073709551615 ∧ ¬ y.f2 + 1 = x.1.f1) := by
            rcases Bool.eq_false_or_eq_true (y.f0.f0 == x.1.f0.f0 && (y.f0.f1 == x.1.f0.f1 && (y.f0.f2 == x.1.f0.f2 && y.f0.f3 == x.1.f0.f3))) with hA | hA
            · by_cases hM : y.f2 = 18446744073709551615
              · exact .inr (.inl ⟨fun w => by rw [eq_actor, hA], hM⟩)
              · refine .inr (.inr ⟨fun w => by rw [eq_actor, hA], hM, fun hN => ?_⟩)
                unfold joins at hj
                simp_all
            · exact .inl fun w => by rw [eq_actor, hA]
          have X4 := Aside0.mk hj
          clear hj
          rcases key with hq | ⟨hq, hM⟩ | ⟨hq, hM, hN⟩
          · go_region
            go_upto_region 8 with (fail)
            clear hy0 hy1 hy2 hy3 hy4 hy5 hyf hq
            generalize wd.drew = we at *
            have hsp : ∀ j u, (scells (newSp x.1))[j]? = some u → (we.alloc (.cells #[.int .u8 x.1.f0.f0, .int .u8 x.1.f0.f1, .int .u8 x.1.f0.f2, .int .u8 x.1.f0.f3, .int .u64 x.1.f1, .int .u64 x.1.f1] 45)).cell? ((⟨we.heap.size, 0, none⟩ : Addr).add j) = some u := fun j u hj => by
              simp only [add_plain, Nat.zero_add]
              refine (cells_fresh we _ _ j).trans ?_
              show (scells (newSp x.1)).toArray[j]? = some u
              simpa using hj
            have HSP := Aside0.mk hsp
            clear hsp
            go_wp2_with (first | (at_builtin; refine wpList_append_own _ rfl _ _ 42 rfl W1.heap.size 45 i0 (.agg #[.int .u8 0, .int .u8 0, .int .u8 0, .int .u8 0, .int .u64 0, .int .u64 0]) 6 24 Try.underlying42 hi hz0 hz1 hz2 rfl (by decide) (.slice (some ⟨gb, 0, none⟩) (r.length + 1 : Nat) scap) (r.length + 1) ((y :: r).reverse.flatMap scells) rfl (X3.out.1.alloc _) ⟨we.heap.size, 0, none⟩ 1 1 (scells (newSp x.1)) rfl rfl HSP.out (scells_one _) (by obtain ⟨m1, m2, m3, m4, m5⟩ := hmxA.out; omega) (by obtain ⟨m1, m2, m3, m4, m5⟩ := hmxA.out; omega) (by have := X3.out.2.size; simp; omega) ?_; intro v' w1 hown' hgrow hnl') | go_in)
            have hR2 : spansR (L.take (k + 1)) = newSp x.1 :: y :: r := by rw [X2.out.2.1, spansR_snoc, X2.out.2.2.1]; simp [stepR, X4.out]
            refine ⟨⟨k + 1, Nat.succ_le_of_lt hlt, iv_succ hwk, ?_, ?_, ?_, ?_⟩, iv_meas hwk hlt⟩
            · rw [hR2]; simpa [List.append_assoc] using hown'
            · rw [hR2, hnl']; simp
            · rw [hR2]; have := hmxA.out.2.2.2.1; simp; omega
            · exact (below_alloc X3.out.2 _).grown hgrow (by have := X3.out.2.size; simp; omega) (fun j hj => by simp [Value.ownBlock] at hj; obtain ⟨m1, m2, m3, m4, m5⟩ := hmxA.out; omega)
          · go_region
            go_upto_region 8 with (fail)
            clear hy0 hy1 hy2 hy3 hy4 hy5 hyf hq hM
            generalize wd.drew = we at *
            have hsp : ∀ j u, (scells (newSp x.1))[j]? = some u → (we.alloc (.cells #[.int .u8 x.1.f0.f0, .int .u8 x.1.f0.f1, .int .u8 x.1.f0.f2, .int .u8 x.1.f0.f3, .int .u64 x.1.f1, .int .u64 x.1.f1] 45)).cell? ((⟨we.heap.size, 0, none⟩ : Addr).add j) = some u := fun j u hj => by
              simp only [add_plain, Nat.zero_add]
              refine (cells_fresh we _ _ j).trans ?_
              show (scells (newSp x.1)).toArray[j]? = some u
              simpa using hj
            have HSP := Aside0.mk hsp
            clear hsp
            go_wp2_with (first | (at_builtin; refine wpList_append_own _ rfl _ _ 42 rfl W1.heap.size 45 i0 (.agg #[.int .u8 0, .int .u8 0, .int .u8 0, .int .u8 0, .int .u64 0, .int .u64 0]) 6 24 Try.underlying42 hi hz0 hz1 hz2 rfl (by decide) (.slice (some ⟨gb, 0, none⟩) (r.length + 1 : Nat) scap) (r.length + 1) ((y :: r).reverse.flatMap scells) rfl (X3.out.1.alloc _) ⟨we.heap.size, 0, none⟩ 1 1 (scells (newSp x.1)) rfl rfl HSP.out (scells_one _) (by obtain ⟨m1, m2, m3, m4, m5⟩ := hmxA.out; omega) (by obtain ⟨m1, m2, m3, m4, m5⟩ := hmxA.out; omega) (by have := X3.out.2.size; simp; omega) ?_; intro v' w1 hown' hgrow hnl') | go_in)
            have hR2 : spansR (L.take (k + 1)) = newSp x.1 :: y :: r := by rw [X2.out.2.1, spansR_snoc, X2.out.2.2.1]; simp [stepR, X4.out]
            refine ⟨⟨k + 1, Nat.succ_le_of_lt hlt, iv_succ hwk, ?_, ?_, ?_, ?_⟩, iv_meas hwk hlt⟩
            · rw [hR2]; simpa [List.append_assoc] using hown'
            · rw [hR2, hnl']; simp
            · rw [hR2]; have := hmxA.out.2.2.2.1; simp; omega
            · exact (below_alloc X3.out.2 _).grown hgrow (by have := X3.out.2.size; simp; omega) (fun j hj => by simp [Value.ownBlock] at hj; obtain ⟨m1, m2, m3, m4, m5⟩ := hmxA.out; omega)
          · have hwN : IntKind.u64.wrap (y.f2 + 1) = y.f2 + 1 := wrap_u64_succ (spansR_range _ y (by rw [X2.out.2.2.1]; exact List.mem_cons_self)) hM
            have hM1 : (y.f2 != 18446744073709551615) = true := by simpa using hM
            have hM2 : (y.f2 == 18446744073709551615) = false := by simpa using hM
            have hN1 : (y.f2 + 1 == x.1.f1) = false := by simpa using hN
            go_region
            go_upto_region 8 with (fail)
            clear hy0 hy1 hy2 hy3 hy4 hy5 hyf hq hM hN
            generalize wd.drew = we at *
            have hsp : ∀ j u, (scells (newSp x.1))[j]? = some u → (we.alloc (.cells #[.int .u8 x.1.f0.f0, .int .u8 x.1.f0.f1, .int .u8 x.1.f0.f2, .int .u8 x.1.f0.f3, .int .u64 x.1.f1, .int .u64 x.1.f1] 45)).cell? ((⟨we.heap.size, 0, none⟩ : Addr).add j) = some u := fun j u hj => by
              simp only [add_plain, Nat.zero_add]
              refine (cells_fresh we _ _ j).trans ?_
              show (scells (newSp x.1)).toArray[j]? = some u
              simpa using hj
            have HSP := Aside0.mk hsp
            clear hsp
            go_wp2_with (first | (at_builtin; refine wpList_append_own _ rfl _ _ 42 rfl W1.heap.size 45 i0 (.agg #[.int .u8 0, .int .u8 0, .int .u8 0, .int .u8 0, .int .u64 0, .int .u64 0]) 6 24 Try.underlying42 hi hz0 hz1 hz2 rfl (by decide) (.slice (some ⟨gb, 0, none⟩) (r.length + 1 : Nat) scap) (r.length + 1) ((y :: r).reverse.flatMap scells) rfl (X3.out.1.alloc _) ⟨we.heap.size, 0, none⟩ 1 1 (scells (newSp x.1)) rfl rfl HSP.out (scells_one _) (by obtain ⟨m1, m2, m3, m4, m5⟩ := hmxA.out; omega) (by obtain ⟨m1, m2, m3, m4, m5⟩ := hmxA.out; omega) (by have := X3.out.2.size; simp; omega) ?_; intro v' w1 hown' hgrow hnl') | go_in)
            have hR2 : spansR (L.take (k + 1)) = newSp x.1 :: y :: r := by rw [X2.out.2.1, spansR_snoc, X2.out.2.2.1]; simp [stepR, X4.out]
            refine ⟨⟨k + 1, Nat.succ_le_of_lt hlt, iv_succ hwk, ?_, ?_, ?_, ?_⟩, iv_meas hwk hlt⟩
            · rw [hR2]; simpa [List.append_assoc] using hown'
            · rw [hR2, hnl']; simp
            · rw [hR2]; have := hmxA.out.2.2.2.1; simp; omega
            · exact (below_alloc X3.out.2 _).grown hgrow (by have := X3.out.2.size; simp; omega) (fun j hj => by simp [Value.ownBlock] at hj; obtain ⟨m1, m2, m3, m4, m5⟩ := hmxA.out; omega)
    · have hkl : k = L.length := by omega
      subst hkl
      have hd1 : decide ((L.length : Int) < (L.length : Int)) = false := decide_eq_false (by omega)
      rw [List.take_length] at *
      have XE := Aside0.mk (And.intro hown (And.intro hnl hBr))
      have XL := Aside0.mk (And.intro hrow (And.intro hnil hB1))
      clear hown hnl hBr hrow hnil hB1 hcells hS hl hSk hL
      go_wp2
      go_ret
      exact ⟨_, rfl, by unfold spansOf; rw [List.length_reverse]; exact ownsRow_lower XE.out.1 XL.out.2.2.size, XE.out.2.1.trans (spansR_nil L), XL.out.2.2.trans (XE.out.2.2.mono XL.out.2.2.size)⟩
end Go.Proofs.Ythljboogcjpgiaa.Ds
