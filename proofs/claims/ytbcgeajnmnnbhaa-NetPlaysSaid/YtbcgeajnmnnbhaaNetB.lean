/- New, is, Len, Peek of a net: walked. -/
import Derived.Test.YtbcgeajnmnnbhaaNetW
import Derived.Test.YtbcgeajnmnnbhaaPAllx2
set_option linter.unusedSimpArgs false
set_option linter.unusedVariables false
namespace Go.Proofs.Ytbcgeajnmnnbhaa.Nt
open Go.RowKit Go.Maps Go.Proofs.Ytbcgeajnmnnbhaa.PAll Go.Proofs.YtbcgeajnmnnbhaaW.PrintWords

theorem put_fresh {w : World} {t : TypeId} {cs : Array Value} (j : Nat) (v : Value) : (w.alloc (.cells cs t)).setCell ⟨w.heap.size, j, none⟩ v = w.alloc (.cells (cs.setIfInBounds j v) t) := by
  have e : ∀ h : Array Obj, h.size = w.heap.size → (h.push (.cells cs t)).modify w.heap.size (fun o => match o with | .cells c ty fr => .cells (c.setIfInBounds j v) ty fr | o => o) = h.push (.cells (cs.setIfInBounds j v) t) := by
    intro h hs
    apply Array.ext
    · simp
    · intro i h1 h2
      by_cases hi : i = w.heap.size
      · subst hi
        simp [Array.getElem_modify, ← hs]
      · have : i < h.size := by simp at h2; omega
        simp [Array.getElem_modify, Array.getElem_push, this, Ne.symm hi]
  simp only [World.setCell, World.alloc]
  congr 1
  exact e w.heap rfl
attribute [local go_sem] put_fresh
theorem new_c (W : World) : Calls Try.prog 9 #[] W fun e W' => e = .returned (.pointer (some ⟨W.heap.size, 0, none⟩)) ∧ NetAt W' W.heap.size W.heap.size (.map none) [] ∧ CutAt W' W.heap.size (.map none) 0 (fun _ _ => false) ∧ Below W.heap.size W W' := by
  go_enter Try.func9, Try.ntmps9
  go_wp2
  go_ret
  exact ⟨rfl, ⟨Nat.le_refl _, .slice none 0 0, heap_alloc_new W _, World.ownsRow_nil _ _ _ _⟩, .inl ⟨rfl, fun _ _ => rfl⟩, below_alloc (Below.refl _ _) _⟩
theorem len_c {W : World} {base B : Nat} {m : Value} {L : List Pk} (h : NetAt W base B m L) : Calls Try.prog 15 #[.pointer (some ⟨B, 0, none⟩)] W fun e W' => e = .returned (.int .i64 L.length) ∧ W' = W := by
  obtain ⟨h0, v, hB, hr⟩ := h
  obtain ⟨p, c, rfl⟩ := owns_slice hr
  have hc : W.cell? ⟨B, 0, none⟩ = some (.slice p L.length c) := blk_cell hB 0
  clear hr hB
  go_enter Try.func15, Try.ntmps15
  go_wp2
  go_ret
  exact ⟨rfl, rfl⟩
/-- Is there such a place? -/
def isB (L : List Pk) (k : Int) : Bool := decide (0 ≤ k) && decide (k < (L.length : Int))
theorem is_c {W : World} {base B : Nat} {m : Value} {L : List Pk} (h : NetAt W base B m L) (k : Int) : Calls Try.prog 33 #[.pointer (some ⟨B, 0, none⟩), .int .i64 k] W fun e W' => e = .returned (.bool (isB L k)) ∧ W' = W := by
  obtain ⟨h0, v, hB, hr⟩ := h
  obtain ⟨p, c, rfl⟩ := owns_slice hr
  have hc : W.cell? ⟨B, 0, none⟩ = some (.slice p L.length c) := blk_cell hB 0
  clear hr hB
  by_cases h1 : 0 ≤ k
  · by_cases h2 : k < (L.length : Int)
    · have hz : isB L k = true := by simp [isB, h1, h2]
      have HZ := Aside0.mk hz
      clear hz
      go_enter Try.func33, Try.ntmps33
      go_wp2
      go_ret
      exact ⟨by rw [HZ.out]; rfl, rfl⟩
    · have hz : isB L k = false := by simp [isB, h2]
      have HZ := Aside0.mk hz
      clear hz
      go_enter Try.func33, Try.ntmps33
      go_wp2
      go_ret
      exact ⟨by rw [HZ.out]; rfl, rfl⟩
  · have hz : isB L k = false := by simp [isB, h1]
    have HZ := Aside0.mk hz
    clear hz
    go_enter Try.func33, Try.ntmps33
    go_wp2
    go_ret
    exact ⟨by rw [HZ.out]; rfl, rfl⟩
theorem isB_nat {L : List Pk} {k : Nat} (h : k < L.length) : isB L (k : Int) = true := by simp [isB, h]
def noPk : Value := .agg #[.int .i64 0, .int .i64 0, .string ByteArray.empty]
def pval (x : Pk) : Value := .agg #[.int .i64 x.a, .int .i64 x.b, .string x.s]
set_option maxRecDepth 100000 in
set_option maxHeartbeats 4000000 in
theorem peek_in {W : World} {base B : Nat} {m : Value} {L : List Pk} (h : NetAt W base B m L) (k : Nat) (x : Pk) (hx : L[k]? = some x) :
    Calls Try.prog 13 #[.pointer (some ⟨B, 0, none⟩), .int .i64 k] W fun e W' => e = .returned (.tuple #[pval x, .bool true]) ∧ Below W.heap.size W W' := by
  have hk : k < L.length := (List.getElem?_eq_some_iff.1 hx).1
  have HN := Aside0.mk h
  obtain ⟨h0, v, hB, hr⟩ := h
  obtain ⟨p, c, rfl⟩ := owns_slice hr
  obtain ⟨g, x', rfl, hx', x0, x1, x2⟩ := own_at hr hk
  obtain rfl : x' = x := Option.some.inj (hx'.symm.trans hx)
  have hgl := (own_lt hr g rfl).2
  have hbl := (Array.getElem?_eq_some_iff.1 hB).1
  have hc : (W.alloc (.cells #[.int .i64 0, .int .i64 0, .string ByteArray.empty] 27)).cell? ⟨B, 0, none⟩ = some (.slice (some ⟨g, 0, none⟩) L.length c) := blk_cell ((heap_alloc_old _ _ hbl).trans hB) 0
  have y0 := (World.cell?_of_block (a := ⟨g, k * 3, none⟩) (heap_alloc_old W (.cells #[.int .i64 0, .int .i64 0, .string ByteArray.empty] 27) hgl)).trans x0
  have y1 := (World.cell?_of_block (a := ⟨g, k * 3 + 1, none⟩) (heap_alloc_old W (.cells #[.int .i64 0, .int .i64 0, .string ByteArray.empty] 27) hgl)).trans x1
  have y2 := (World.cell?_of_block (a := ⟨g, k * 3 + 2, none⟩) (heap_alloc_old W (.cells #[.int .i64 0, .int .i64 0, .string ByteArray.empty] 27) hgl)).trans x2
  have hki : (k : Int) < (L.length : Int) := by omega
  have hI := is_c (HN.out.below (below_alloc (Below.refl W.heap.size W) (.cells #[.int .i64 0, .int .i64 0, .string ByteArray.empty] 27))) (k : Int)
  rw [isB_nat hk] at hI
  have HI := Aside0.mk hI
  clear hr hB x0 x1 x2 hx hx' hI hgl hbl h0
  go_enter Try.func13, Try.ntmps13
  go_wp2_with (go_at_call 33; refine HI.out.mono ?_; rintro e w' ⟨rfl, rfl⟩)
  have z0 : (W.alloc (.cells #[.int .i64 x'.a, .int .i64 x'.b, .string x'.s] 27)).cell? ⟨W.heap.size, 0, none⟩ = some (.int .i64 x'.a) := blk_cell (heap_alloc_new W _) 0
  have z1 : (W.alloc (.cells #[.int .i64 x'.a, .int .i64 x'.b, .string x'.s] 27)).cell? ⟨W.heap.size, 1, none⟩ = some (.int .i64 x'.b) := blk_cell (heap_alloc_new W _) 1
  have z2 : (W.alloc (.cells #[.int .i64 x'.a, .int .i64 x'.b, .string x'.s] 27)).cell? ⟨W.heap.size, 2, none⟩ = some (.string x'.s) := blk_cell (heap_alloc_new W _) 2
  exact bodyPost_ret (v := .tuple #[pval x', .bool true]) (by simp [results, Try.results13, go_sem, z0, z1, z2, pval]) rfl ⟨rfl, below_alloc (Below.refl _ _) _⟩
set_option maxRecDepth 100000 in
set_option maxHeartbeats 4000000 in
theorem peek_out {W : World} {base B : Nat} {m : Value} {L : List Pk} (h : NetAt W base B m L) (k : Int) (hk : isB L k = false) :
    Calls Try.prog 13 #[.pointer (some ⟨B, 0, none⟩), .int .i64 k] W fun e W' => e = .returned (.tuple #[noPk, .bool false]) ∧ Below W.heap.size W W' := by
  have hI := is_c (h.below (below_alloc (Below.refl W.heap.size W) (.cells #[.int .i64 0, .int .i64 0, .string ByteArray.empty] 27))) k
  rw [hk] at hI
  have HI := Aside0.mk hI
  clear hI h
  go_enter Try.func13, Try.ntmps13
  go_wp2_with (go_at_call 33; refine HI.out.mono ?_; rintro e w' ⟨rfl, rfl⟩)
  have z0 : (W.alloc (.cells #[.int .i64 0, .int .i64 0, .string ByteArray.empty] 27)).cell? ⟨W.heap.size, 0, none⟩ = some (.int .i64 0) := blk_cell (heap_alloc_new W _) 0
  have z1 : (W.alloc (.cells #[.int .i64 0, .int .i64 0, .string ByteArray.empty] 27)).cell? ⟨W.heap.size, 1, none⟩ = some (.int .i64 0) := blk_cell (heap_alloc_new W _) 1
  have z2 : (W.alloc (.cells #[.int .i64 0, .int .i64 0, .string ByteArray.empty] 27)).cell? ⟨W.heap.size, 2, none⟩ = some (.string ByteArray.empty) := blk_cell (heap_alloc_new W _) 2
  exact bodyPost_ret (v := .tuple #[noPk, .bool false]) (by simp [results, Try.results13, go_sem, z0, z1, z2, noPk]; rfl) rfl ⟨rfl, below_alloc (Below.refl _ _) _⟩
end Go.Proofs.Ytbcgeajnmnnbhaa.Nt
