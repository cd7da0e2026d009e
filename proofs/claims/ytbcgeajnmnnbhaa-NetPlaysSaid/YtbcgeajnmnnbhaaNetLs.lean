/- Packets in a row: moved there and back. Plain lists. -/
import Derived.Test.YtbcgeajnmnnbhaaNetLiv
set_option linter.unusedSimpArgs false
set_option linter.unusedVariables false
namespace Go.Proofs.Ytbcgeajnmnnbhaa.Nt
/-- The packets that NetMoves sends. -/
def pkn (i : Nat) (h : i < 9223372036854775807) : Pk := ⟨0, i, ⟨#[97, 98, 99]⟩, by constructor <;> decide, by constructor <;> omega⟩
def pk (i : Nat) : Pk := if h : i < 9223372036854775807 then pkn i h else default
def Lm (n : Nat) : List Pk := (List.range n).map pk
theorem Lm_len (n : Nat) : (Lm n).length = n := by simp [Lm]
theorem Lm_at {n i : Nat} (h : i < n) : (Lm n)[i]? = some (pk i) := by simp [Lm, h]
theorem Lm_succ (n : Nat) : Lm (n + 1) = Lm n ++ [pk n] := by simp [Lm, List.range_succ]
theorem pk_b {i : Nat} (h : i < 1000) : (pk i).b = i := by
  unfold pk
  rw [dif_pos (by omega)]
  rfl
theorem pk_a {i : Nat} (h : i < 1000) : (pk i).a = 0 := by
  unfold pk
  rw [dif_pos (by omega)]
  rfl
theorem pk_s {i : Nat} (h : i < 1000) : (pk i).s = ⟨#[97, 98, 99]⟩ := by
  unfold pk
  rw [dif_pos (by omega)]
  rfl
theorem mv_len (L : List Pk) {k z : Nat} (x : Pk) (hk : k < L.length) (hz : z < L.length) : (mv L k x z).length = L.length := by
  have := List.length_eraseIdx_of_lt hk
  unfold mv
  rw [List.length_append, List.length_cons, List.length_take, List.length_drop]
  omega
theorem mv_at (L : List Pk) {k z : Nat} (x : Pk) (hk : k < L.length) (hz : z < L.length) : (mv L k x z)[z]? = some x := by
  have := List.length_eraseIdx_of_lt hk
  unfold mv
  rw [List.getElem?_append_right (by rw [List.length_take]; omega), List.length_take, Nat.min_eq_left (by omega), Nat.sub_self]
  rfl
theorem mv_erase (L : List Pk) {k z : Nat} (x : Pk) (hk : k < L.length) (hz : z < L.length) : (mv L k x z).eraseIdx z = L.eraseIdx k := by
  have := List.length_eraseIdx_of_lt hk
  unfold mv
  rw [List.eraseIdx_append_of_length_le (by rw [List.length_take]; omega), List.length_take, Nat.min_eq_left (by omega), Nat.sub_self, List.eraseIdx_cons_zero, List.take_append_drop]
theorem mv_back (L : List Pk) {k z : Nat} (x : Pk) (hx : L[k]? = some x) (hz : z < L.length) : mv (mv L k x z) z x k = L := by
  have hk : k < L.length := (List.getElem?_eq_some_iff.1 hx).1
  have e := mv_erase L x hk hz
  show ((mv L k x z).eraseIdx z).take k ++ x :: ((mv L k x z).eraseIdx z).drop k = L
  rw [e]
  apply List.ext_getElem?
  intro i
  have hl := List.length_eraseIdx_of_lt hk
  rcases Nat.lt_trichotomy i k with h | h | h
  · rw [List.getElem?_append_left (by rw [List.length_take]; omega), List.getElem?_take_of_lt h, List.getElem?_eraseIdx_of_lt h]
  · subst h
    rw [List.getElem?_append_right (by rw [List.length_take]; omega), List.length_take, Nat.min_eq_left (by omega), Nat.sub_self, hx]
    rfl
  · rw [List.getElem?_append_right (by rw [List.length_take]; omega), List.length_take, Nat.min_eq_left (by omega), show i - k = (i - k - 1) + 1 by omega, List.getElem?_cons_succ, List.getElem?_drop, List.getElem?_eraseIdx_of_ge (by omega)]
    congr 1
    omega
/-- Outside the place that was moved to the packets stand in their order. -/
theorem mv_other (L : List Pk) {k z i : Nat} (x : Pk) (hk : k < L.length) (hz : z < L.length) (hi : i ≠ z) : (mv L k x z)[i]? = L[(fun j => if j < k then j else j + 1) (if i < z then i else i - 1)]? := by
  have hl := List.length_eraseIdx_of_lt hk
  have e : ∀ j, (L.eraseIdx k)[j]? = L[if j < k then j else j + 1]? := fun j => by
    by_cases h : j < k
    · rw [List.getElem?_eraseIdx_of_lt h, if_pos h]
    · rw [List.getElem?_eraseIdx_of_ge (by omega), if_neg h]
  unfold mv
  by_cases h : i < z
  · rw [List.getElem?_append_left (by rw [List.length_take]; omega), List.getElem?_take_of_lt h, e, if_pos h]
  · rw [List.getElem?_append_right (by rw [List.length_take]; omega), List.length_take, Nat.min_eq_left (by omega), show i - z = (i - z - 1) + 1 by omega, List.getElem?_cons_succ, List.getElem?_drop, e, if_neg h]
    congr 1
    have : z + (i - z - 1) = i - 1 := by omega
    rw [this]
theorem arr_twice (a : Array UInt8) (t : Nat) (c : UInt8) : (a.setIfInBounds t (a[t]! ^^^ c)).setIfInBounds t ((a.setIfInBounds t (a[t]! ^^^ c))[t]! ^^^ c) = a := by
  by_cases h : t < a.size
  · have h1 : (a.setIfInBounds t (a[t]! ^^^ c))[t]! = a[t]! ^^^ c := by
      rw [getElem!_pos _ t (by simpa using h), Array.getElem_setIfInBounds_self]
    rw [h1, UInt8.xor_assoc, UInt8.xor_self, UInt8.xor_zero, getElem!_pos a t h]
    apply Array.ext
    · simp
    · intro i h2 h3
      by_cases e : t = i
      · subst e
        rw [Array.getElem_setIfInBounds_self]
      · rw [Array.getElem_setIfInBounds_ne _ e, Array.getElem_setIfInBounds_ne _ e]
        simpa using h3
  · have hs : ∀ v, a.setIfInBounds t v = a := fun v => by
      unfold Array.setIfInBounds
      rw [dif_neg h]
    rw [hs, hs]
theorem spb_twice (s : ByteArray) (t : Nat) (b : Int) : spb (spb s t b) t b = s := by
  have := arr_twice s.data t (UInt8.ofNat (b % 256).toNat)
  show ByteArray.mk _ = s
  exact congrArg ByteArray.mk this
end Go.Proofs.Ytbcgeajnmnnbhaa.Nt
