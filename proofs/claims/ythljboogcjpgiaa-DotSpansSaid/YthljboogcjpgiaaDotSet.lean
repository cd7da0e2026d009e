/- A set of dots: what it holds; Add, New. -/
import Derived.Test.YthljboogcjpgiaaDotList
import Derived.Test.YthljboogcjpgiaaPAllx4
import Derived.Deep.RegionWith
set_option linter.unusedSimpArgs false
set_option linter.unusedVariables false
namespace Go.Proofs.Ythljboogcjpgiaa.Ds
open Go.RowKit Go.Maps Go.Sort Go.Shelf Go.Proofs.Ythljboogcjpgiaa.PAll Go.Proofs.YthljboogcjpgiaaW.PrintWords

/-! ### lists in order -/
def ins (x : Vd) : List Vd → List Vd
  | [] => [x]
  | y :: r => if rkv x < rkv y then x :: y :: r else if rkv y < rkv x then y :: ins x r else y :: r
def del (x : Vd) (L : List Vd) : List Vd := L.filter fun y => decide (rkv y ≠ rkv x)
theorem mem_ins (x y : Vd) : ∀ L, y ∈ ins x L ↔ y = x ∨ y ∈ L
  | [] => by simp [ins]
  | z :: r => by
    unfold ins
    by_cases h1 : rkv x < rkv z
    · simp [h1]
    · by_cases h2 : rkv z < rkv x
      · simp [h1, h2, mem_ins x y r]
        constructor
        · rintro (h | h | h) <;> simp [h]
        · rintro (h | h | h) <;> simp [h]
      · have : x = z := rkv_inj (by omega)
        subst this
        simp
theorem rising_ins (x : Vd) : ∀ L, Rising L → Rising (ins x L)
  | [], _ => by simp [ins, Rising]
  | z :: r, h => by
    have h0 := (List.pairwise_cons.1 h)
    unfold ins
    by_cases h1 : rkv x < rkv z
    · rw [if_pos h1]
      refine List.pairwise_cons.2 ⟨fun y hy => ?_, h⟩
      rcases List.mem_cons.1 hy with rfl | hy
      · exact h1
      · exact Int.lt_trans h1 (h0.1 y hy)
    · rw [if_neg h1]
      by_cases h2 : rkv z < rkv x
      · rw [if_pos h2]
        refine List.pairwise_cons.2 ⟨fun y hy => ?_, rising_ins x r h0.2⟩
        rcases (mem_ins x y r).1 hy with rfl | hy
        · exact h2
        · exact h0.1 y hy
      · rw [if_neg h2]; exact h
theorem length_ins (x : Vd) : ∀ L, Rising L → (x ∈ L → (ins x L).length = L.length) ∧ (x ∉ L → (ins x L).length = L.length + 1)
  | [], _ => by simp [ins]
  | z :: r, h => by
    have h0 := (List.pairwise_cons.1 h)
    have ih := length_ins x r h0.2
    unfold ins
    by_cases h1 : rkv x < rkv z
    · rw [if_pos h1]
      refine ⟨fun hx => ?_, fun _ => by simp⟩
      rcases List.mem_cons.1 hx with rfl | hx
      · omega
      · have := h0.1 x hx; omega
    · rw [if_neg h1]
      by_cases h2 : rkv z < rkv x
      · rw [if_pos h2]
        have hz : x ≠ z := fun e => by subst e; omega
        refine ⟨fun hx => ?_, fun hx => ?_⟩
        · rcases List.mem_cons.1 hx with e | hx
          · exact absurd e hz
          · simp [ih.1 hx]
        · simp [ih.2 (fun e => hx (List.mem_cons_of_mem _ e))]
      · rw [if_neg h2]
        have : x = z := rkv_inj (by omega)
        subst this
        simp
theorem rising_nodup {L : List Vd} (h : Rising L) : L.Nodup := h.imp fun h e => by subst e; omega
/-- Dots added, one behind the other: those that can be. -/
def addAll (L : List Vd) (l : List Vd) : List Vd := l.foldl (fun L x => if 1 ≤ x.1.f1 then ins x L else L) L
theorem addAll_snoc (L l : List Vd) (x : Vd) : addAll L (l ++ [x]) = if 1 ≤ x.1.f1 then ins x (addAll L l) else addAll L l := by simp [addAll]

/-! ### the set in the heap -/
structure SetAt (W : World) (B b n : Nat) (L : List Vd) : Prop where
  box : W.heap[B]? = some (.cells #[.map (some b)] 66 (0, 0))
  map : ∃ D : DataW Unit, W.ownsMap Try.prog 26 unitElem b n D ∧ (∀ x : Vd, has D (.string (kb x)) = true ↔ x ∈ L) ∧ Maps.size D = L.length
  rise : Rising L
theorem SetAt.keep {W W' : World} {B b n : Nat} {L : List Vd} (h : SetAt W B b n L) (hB : W'.heap[B]? = W.heap[B]?) (hb : W'.heap[b]? = W.heap[b]?) : SetAt W' B b n L := by
  obtain ⟨hx, ⟨D, ⟨es, clock, hm, Ft, hs, hD⟩, h1, h2⟩, hr⟩ := h
  exact ⟨hB.trans hx, ⟨D, ⟨es, clock, hb.trans hm, Ft, hs, hD⟩, h1, h2⟩, hr⟩
theorem SetAt.ne {W : World} {B b n : Nat} {L : List Vd} (h : SetAt W B b n L) : B ≠ b := by
  obtain ⟨hx, ⟨D, ⟨es, clock, hm, _⟩, _⟩, _⟩ := h
  rintro rfl
  rw [hx] at hm
  cases hm
theorem SetAt.ltB {W : World} {B b n : Nat} {L : List Vd} (h : SetAt W B b n L) : B < W.heap.size := (Array.getElem?_eq_some_iff.1 h.box).1
theorem SetAt.ltb {W : World} {B b n : Nat} {L : List Vd} (h : SetAt W B b n L) : b < W.heap.size := by
  obtain ⟨hx, ⟨D, hm, _⟩, _⟩ := h
  exact hm.lt
theorem SetAt.below {W W' : World} {B b n : Nat} {L : List Vd} (h : SetAt W B b n L) (hW : Below W.heap.size W W') : SetAt W' B b n L := h.keep (hW.block B h.ltB) (hW.block b h.ltb)
theorem SetAt.more {W : World} {B b n m : Nat} {L : List Vd} (h : SetAt W B b n L) (hm : n ≤ m) : SetAt W B b m L := by
  obtain ⟨hx, ⟨D, ⟨es, clock, hb, Ft, hs, hD⟩, h1, h2⟩, hr⟩ := h
  exact ⟨hx, ⟨D, ⟨es, clock, hb, Ft, Nat.le_trans hs hm, hD⟩, h1, h2⟩, hr⟩
theorem isKey (x : Vd) : WideAt.IsKeyLit (.string (kb x)) := by simp [WideAt.IsKeyLit]
/-- A dot is put. -/
theorem SetAt.put {W W' : World} {B b n : Nat} {L : List Vd} (h : SetAt W B b n L) (x : Vd) (D : DataW Unit) (hD : W.ownsMap Try.prog 26 unitElem b n D) (h1 : ∀ x : Vd, has D (.string (kb x)) = true ↔ x ∈ L) (h2 : Maps.size D = L.length)
    (hw : W'.ownsMap Try.prog 26 unitElem b (n + 1) (D.put (.string (kb x)) (.agg []))) (hB : W'.heap[B]? = W.heap[B]?) : SetAt W' B b (n + 1) (ins x L) := by
  have ht := hD.tidy dkeyed
  refine ⟨hB.trans h.box, ⟨_, hw, fun y => ?_, ?_⟩, rising_ins x L h.rise⟩
  · by_cases hy : y = x
    · subst hy
      rw [has_put_same ht.isMap (isKey y), mem_ins]
      simp
    · rw [has_put_other (fun e => hy (kb_inj (by simpa using e))), h1 y, mem_ins]
      simp [hy]
  · rw [size_put ht, h2]
    by_cases hx : x ∈ L
    · rw [if_pos ((h1 x).2 hx), (length_ins x L h.rise).1 hx]
    · rw [if_neg (fun e => hx ((h1 x).1 e)), (length_ins x L h.rise).2 hx]
/-- A row of dots that a call reads. -/
def DRow (W : World) (v : Value) (l : List Vd) (no : Nat → Prop) : Prop := ∃ p cap, v = .slice p l.length cap ∧ (l ≠ [] → ∃ q off, p = some ⟨q, off, none⟩ ∧ q < W.heap.size ∧ ¬ no q ∧ ∀ j x, l[j]? = some x → ∀ c, c < 5 → W.cell? ⟨q, off + j * 5 + c, none⟩ = (venc x)[c]?)
theorem valid_c (x : Vd) (w : World) : Calls Try.prog 13 #[vval x] w fun e w' => e = .returned (.bool (decide (1 ≤ x.1.f1))) ∧ Below w.heap.size w w' := by
  refine dot_Valid.calls x.1.f0.f0 x.1.f0.f1 x.1.f0.f2 x.1.f0.f3 x.1.f1 _ w ?_
  unfold dot_Valid.f
  first | rfl | simp
end Go.Proofs.Ythljboogcjpgiaa.Ds
