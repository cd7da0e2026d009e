/- Rows of dots, between the words of the print and those of the walks by hand. -/
import Derived.Test.YthljboogcjpgiaaDotDel
import Derived.Test.YthljboogcjpgiaaPAllx13
set_option linter.unusedSimpArgs false
set_option linter.unusedVariables false
namespace Go.Proofs.Ythljboogcjpgiaa.Ds
open Go.RowKit Go.Maps Go.Sort Go.Shelf Go.Proofs.Ythljboogcjpgiaa.PAll Go.Proofs.YthljboogcjpgiaaW.PrintWords

def toV (l : List Dt) (h : ∀ x ∈ l, Wd x) : List Vd := l.pmap (fun x hx => (⟨x, hx⟩ : Vd)) h
theorem toV_length (l : List Dt) (h : ∀ x ∈ l, Wd x) : (toV l h).length = l.length := by simp [toV]
theorem toV_get {l : List Dt} {h : ∀ x ∈ l, Wd x} {j : Nat} {x : Vd} (hx : (toV l h)[j]? = some x) : l[j]? = some x.1 := by
  unfold toV at hx
  rw [List.getElem?_pmap] at hx
  rcases hl : l[j]? with _ | y
  · simp [hl] at hx
  · simp [hl] at hx
    rw [← hx]
theorem cell_plain {w : World} {a : Addr} {u : Value} (h : w.cell? a = some u) : ∃ b o, a = ⟨b, o, none⟩ ∧ b < w.heap.size := by
  obtain ⟨b, o, x⟩ := a
  cases x with
  | none => exact ⟨b, o, rfl, World.block_lt_of_cell? w _ h⟩
  | some y =>
    simp [World.cell?] at h
    split at h <;> cases h
theorem add_o (b o n : Nat) : (⟨b, o, none⟩ : Addr).add n = ⟨b, o + n, none⟩ := by
  unfold Addr.add
  split
  · rename_i h; rw [h]; rfl
  · rfl
theorem drow_of_C {W : World} {A : Option Addr} {c : Nat} {l : List Dt} (hr : Kd.C k26 W A l.length l) (h : ∀ x ∈ l, Wd x) : DRow W (.slice A l.length c) (toV l h) (fun q => W.heap.size ≤ q) := by
  refine ⟨A, c, by rw [toV_length], fun hne => ?_⟩
  have hpos : 0 < l.length := by
    rw [← toV_length l h]
    exact List.length_pos_iff.2 hne
  obtain ⟨ad, rfl, hc⟩ := hr.2.2 hpos
  have key : ∀ j x, l[j]? = some x → ∀ c, c < 5 → W.cell? (ad.add (j * 5 + c)) = (dcells x)[c]? := fun j x hx c hc5 => by
    obtain ⟨cs, hl, hK, hcell⟩ := hc j x hx
    obtain rfl := k26_open hK
    have hcc : c = 0 ∨ c = 1 ∨ c = 2 ∨ c = 3 ∨ c = 4 := by omega
    rcases hcc with rfl | rfl | rfl | rfl | rfl <;> exact hcell _ _ rfl
  obtain ⟨x0, hx0⟩ : ∃ x, l[0]? = some x := ⟨_, List.getElem?_eq_getElem hpos⟩
  have h0 := key 0 x0 hx0 0 (by decide)
  rw [Nat.zero_mul, Nat.zero_add] at h0
  obtain ⟨b, o, hb, hlt⟩ := cell_plain h0
  obtain rfl : ad = ⟨b, o, none⟩ := hb
  refine ⟨b, o, rfl, hlt, by omega, fun j x hx c hc5 => ?_⟩
  have := key j x.1 (toV_get hx) c hc5
  rw [add_o] at this
  rw [Nat.add_assoc]
  exact this
/-- A row of the call's own, as one that is read. -/
theorem C_of_owns {W : World} {base : Nat} {A : Option Addr} {cap : Nat} {L : List Vd} (h : W.ownsRow base 26 5 (.slice A L.length cap) L.length (L.flatMap venc)) : Kd.C k26 W A (L.map Vd.v).length (L.map Vd.v) ∧ (L.map Vd.v).length ≤ cap := by
  have hd := drow_owns h
  obtain ⟨p, c, e, hd⟩ := hd
  obtain ⟨rfl, _, rfl⟩ := Value.slice.inj e
  rw [List.length_map]
  rcases h.2 with ⟨h0, hz⟩ | ⟨g, cap', cur, hv, hg, hb, hn, hcp, hz, ht⟩
  · rw [hz] at h0
    cases h0
    refine ⟨⟨by simp, by omega, fun hp => by omega⟩, by omega⟩
  · cases hv
    refine ⟨⟨by simp, by unfold maxLen at hcp; omega, fun hp => ?_⟩, hn⟩
    obtain ⟨q, off, e2, hq, hno, hcell⟩ := hd (fun e => by rw [e] at hp; exact absurd hp (Nat.lt_irrefl 0))
    refine ⟨_, e2, fun j x hx => ⟨dcells x, rfl, k26_mk W x, fun i u hu => ?_⟩⟩
    rw [List.getElem?_map] at hx
    obtain ⟨y, hy, rfl⟩ := Option.map_eq_some_iff.1 hx
    have hi : i < 5 := (List.getElem?_eq_some_iff.1 hu).1
    have := hcell j y hy i hi
    rw [add_o, ← Nat.add_assoc]
    exact this.trans hu
/-- The printed SameDots says true of a list and itself. -/
theorem sameDots_true (l : List Dt) (hl : l.length < 4611686018427387904) : ∃ k, cornucopiabook_SameDots.f k l l = some true := by
  have go : ∀ (m i : Nat), i + m = l.length → cornucopiabook_SameDots.l0 (m + 1) l l (i : Int) = some true := by
    intro m
    induction m with
    | zero =>
      intro i hi
      rw [cornucopiabook_SameDots.l0, if_neg (by omega)]
    | succ m ih =>
      intro i hi
      rw [cornucopiabook_SameDots.l0, if_pos (by omega), if_pos (by omega), if_pos (by omega), if_pos (by simp)]
      have e : wrap64 ((i : Int) + 1) = ((i + 1 : Nat) : Int) := by unfold wrap64; omega
      rw [e]
      exact ih (i + 1) (by omega)
  refine ⟨l.length + 1, ?_⟩
  unfold cornucopiabook_SameDots.f
  rw [if_pos rfl]
  exact go l.length 0 (by omega)
theorem sameDots_c {W : World} {base base' : Nat} {A A' : Option Addr} {cap cap' : Nat} {L : List Vd} (h : W.ownsRow base 26 5 (.slice A L.length cap) L.length (L.flatMap venc)) (h' : W.ownsRow base' 26 5 (.slice A' L.length cap') L.length (L.flatMap venc)) (hL : L.length < 4611686018427387904) :
    Calls Try.prog 23 #[.slice A L.length cap, .slice A' L.length cap'] W fun e w' => e = .returned (.bool true) ∧ ∃ n, w' = W.drewN n := by
  obtain ⟨k, hk⟩ := sameDots_true (L.map Vd.v) (by rw [List.length_map]; exact hL)
  have c1 := C_of_owns h
  have c2 := C_of_owns h'
  have hc := cornucopiabook_SameDots.calls k A cap (L.map Vd.v) A' cap' (L.map Vd.v) true W c1.1 c1.2 c2.1 c2.2 hk
  rw [List.length_map] at hc
  exact hc.mono fun e w' ⟨h1, h2⟩ => ⟨h1, h2.out⟩
theorem mem_addAll (x : Vd) : ∀ (l L : List Vd), x ∈ addAll L l ↔ x ∈ L ∨ x ∈ l ∧ 1 ≤ x.1.f1
  | [], L => by simp [addAll]
  | y :: r, L => by
    have ih := mem_addAll x r (if 1 ≤ y.1.f1 then ins y L else L)
    have e : addAll L (y :: r) = addAll (if 1 ≤ y.1.f1 then ins y L else L) r := rfl
    rw [e, ih]
    by_cases hy : 1 ≤ y.1.f1
    · rw [if_pos hy, mem_ins]
      constructor
      · rintro ((rfl | h) | h)
        · exact .inr ⟨List.mem_cons_self, hy⟩
        · exact .inl h
        · exact .inr ⟨List.mem_cons_of_mem _ h.1, h.2⟩
      · rintro (h | ⟨h, h2⟩)
        · exact .inl (.inr h)
        · rcases List.mem_cons.1 h with rfl | h
          · exact .inl (.inl rfl)
          · exact .inr ⟨h, h2⟩
    · rw [if_neg hy]
      constructor
      · rintro (h | h)
        · exact .inl h
        · exact .inr ⟨List.mem_cons_of_mem _ h.1, h.2⟩
      · rintro (h | ⟨h, h2⟩)
        · exact .inl h
        · rcases List.mem_cons.1 h with rfl | h
          · exact absurd h2 hy
          · exact .inr ⟨h, h2⟩
theorem rising_addAll : ∀ (l L : List Vd), Rising L → Rising (addAll L l)
  | [], _, h => h
  | y :: r, L, h => by
    have e : addAll L (y :: r) = addAll (if 1 ≤ y.1.f1 then ins y L else L) r := rfl
    rw [e]
    refine rising_addAll r _ ?_
    split
    · exact rising_ins y L h
    · exact h
theorem mem_delAll (x : Vd) : ∀ (l L : List Vd), x ∈ delAll L l ↔ x ∈ L ∧ x ∉ l
  | [], L => by simp [delAll]
  | y :: r, L => by
    have e : delAll L (y :: r) = delAll (del y L) r := rfl
    rw [e, mem_delAll x r, mem_del]
    simp only [List.mem_cons, not_or, and_assoc]
theorem rising_delAll : ∀ (l L : List Vd), Rising L → Rising (delAll L l)
  | [], _, h => h
  | y :: r, L, h => rising_delAll r _ (rising_del y h)
/-- What was taken out, put in again. -/
theorem add_del (S M : List Vd) (hS : Rising S) (hv : ∀ x ∈ S, 1 ≤ x.1.f1) : addAll (delAll S M) S = S := by
  refine rising_unique (rising_addAll _ _ (rising_delAll _ _ hS)) hS fun x => ?_
  rw [mem_addAll, mem_delAll]
  exact ⟨fun h => h.elim (fun h => h.1) fun h => h.1, fun h => .inr ⟨h, hv x h⟩⟩
end Go.Proofs.Ythljboogcjpgiaa.Ds
