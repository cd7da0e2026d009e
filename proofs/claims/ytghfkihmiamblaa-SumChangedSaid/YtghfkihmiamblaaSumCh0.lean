/- SumChanged, plain words: a sealed text of which one byte is changed is refused, as is one cut short to less than its sum. -/
import Derived.Test.YtghfkihmiamblaaPAllx6
import Derived.Test.YtghfkihmiamblaaSum1
set_option linter.unusedSimpArgs false
set_option linter.unusedVariables false
namespace Go.Proofs.Ytghfkihmiamblaa.Pure
open Go.RowKit Go.Proofs.Ytghfkihmiamblaa.PAll Go.Proofs.YtghfkihmiamblaaW.PrintWords Go.Proofs.YtghfkihmiamblaaW.PrintMore Go.Proofs.Ytghfkihmiamblaa.Pb

theorem xor_left_inj {a x y : Nat} (h : a ^^^ x = a ^^^ y) : x = y := by
  have := congrArg (a ^^^ ·) h
  simpa [← Nat.xor_assoc] using this
theorem poly_big {x : Nat} (h : x < 2147483648) : 2147483648 ≤ x ^^^ 2197175160 := by
  refine Nat.le_of_not_lt fun h2 => ?_
  have h3 : x ^^^ (x ^^^ 2197175160) < 2 ^ 31 := Nat.xor_lt_two_pow (by omega) (by omega)
  rw [← Nat.xor_assoc, Nat.xor_self, Nat.zero_xor] at h3
  omega
theorem step_inj {x y : Nat} (hx : x < 4294967296) (hy : y < 4294967296) (h : step x = step y) : x = y := by
  have bx := poly_big (x := x / 2) (by omega)
  have b_y := poly_big (x := y / 2) (by omega)
  unfold step at h
  by_cases cx : x % 2 = 1 <;> by_cases cy : y % 2 = 1
  · rw [if_pos cx, if_pos cy, Nat.xor_comm, Nat.xor_comm (y / 2)] at h
    have := xor_left_inj h
    omega
  · rw [if_pos cx, if_neg cy] at h; omega
  · rw [if_neg cx, if_pos cy] at h; omega
  · rw [if_neg cx, if_neg cy] at h; omega
theorem steps_inj : ∀ (n : Nat) {x y : Nat}, x < 4294967296 → y < 4294967296 → steps n x = steps n y → x = y
  | 0, _, _, _, _, h => h
  | n + 1, _, _, hx, hy, h => step_inj hx hy (steps_inj n (step_lt hx) (step_lt hy) h)
theorem xb_lt {x : Nat} (b : UInt8) (h : x < 4294967296) : x ^^^ b.toNat < 4294967296 := Nat.xor_lt_two_pow (n := 32) h (by have := b.toNat_lt; omega)
theorem crcL_inj : ∀ (l : List UInt8) {x y : Nat}, x < 4294967296 → y < 4294967296 → crcL x l = crcL y l → x = y
  | [], _, _, _, _, h => h
  | b :: l, x, y, hx, hy, h => by
    have h1 := crcL_inj l (crcB_lt b hx) (crcB_lt b hy) h
    have h2 := steps_inj 8 (xb_lt b hx) (xb_lt b hy) h1
    rw [Nat.xor_comm x, Nat.xor_comm y] at h2
    exact xor_left_inj h2
theorem crc_change (p q : List UInt8) (b c : UInt8) (h : crc (p ++ b :: q) = crc (p ++ c :: q)) : b = c := by
  have h1 := xor_left_inj h
  rw [crcL_append, crcL_append] at h1
  have hp := crcL_lt p (x := 4294967295) (by omega)
  have h2 := crcL_inj q (crcB_lt b hp) (crcB_lt c hp) h1
  have h3 := xor_left_inj (steps_inj 8 (xb_lt b hp) (xb_lt c hp) h2)
  exact UInt8.toNat_inj.1 h3

theorem unL_add : ∀ (l : List UInt8) (a : Nat), unL a l = a * 256 ^ l.length + unL 0 l
  | [], a => by simp [unL]
  | c :: l, a => by
    have h1 := unL_add l (a * 256 + c.toNat)
    have h2 := unL_add l (0 * 256 + c.toNat)
    simp only [unL, List.foldl_cons, List.length_cons] at h1 h2 ⊢
    rw [h1, h2, Nat.pow_succ, Nat.zero_mul, Nat.zero_add, Nat.add_mul, Nat.mul_assoc, Nat.mul_comm 256 (256 ^ l.length), ← Nat.add_assoc]
theorem unL_inj : ∀ (l m : List UInt8), l.length = m.length → unL 0 l = unL 0 m → l = m
  | [], [], _, _ => rfl
  | [], _ :: _, h, _ => by simp at h
  | _ :: _, [], h, _ => by simp at h
  | c :: l, d :: m, hl, h => by
    simp only [List.length_cons, Nat.add_right_cancel_iff] at hl
    have e1 := unL_add l (0 * 256 + c.toNat)
    have e2 := unL_add m (0 * 256 + d.toNat)
    have b1 := unL_lt l 0 0 (by omega)
    have b2 := unL_lt m 0 0 (by omega)
    rw [Nat.zero_mul, Nat.zero_add] at e1 e2
    rw [Nat.zero_add] at b1 b2
    have h' : unL (0 * 256 + c.toNat) l = unL (0 * 256 + d.toNat) m := h
    rw [Nat.zero_mul, Nat.zero_add, Nat.zero_add] at h'
    rw [e1, e2, hl] at h'
    rw [hl] at b1
    have hcd : c.toNat = d.toNat := by
      have h1 := congrArg (· / 256 ^ m.length) h'
      have hp : 0 < 256 ^ m.length := Nat.pow_pos (by omega)
      simp only [Nat.mul_comm _ (256 ^ m.length), Nat.mul_add_div hp, Nat.div_eq_of_lt b1, Nat.div_eq_of_lt b2, Nat.add_zero] at h1
      exact h1
    rw [hcd] at h'
    rw [UInt8.toNat_inj.1 hcd, unL_inj l m hl (by omega)]

/-- Open of what isn't sealed. -/
theorem Open_bad (b : ByteArray) (h4 : 4 ≤ b.size) (hs : b.size ≤ 140737488355328) (h : unL 0 (((ls b).drop (b.size - 4)).take 4) ≠ crc ((ls b).take (b.size - 4))) :
    Ev (fun k => sum_Open.f k b) ((⟨#[]⟩ : ByteArray), 6) := by
  have e1 : wrap64 ((b.size : Int) - 4) = ((b.size - 4 : Nat) : Int) := by rw [wrap64_id (by omega) (by omega)]; omega
  unfold sum_Open.f
  rw [e1]
  refine Ev.iteF (by omega) (Ev.bind (get_ev b (b.size - 4) (by omega) hs) ?_)
  refine Ev.iteT (by omega) (Ev.iteT (by omega) ?_)
  rw [Int.toNat_natCast]
  refine Ev.bind (Crc_ev _ (by simp) ?_) ?_
  · intro x hx
    simp only [List.mem_cons, List.not_mem_nil, or_false] at hx
    subst hx
    rw [← ls_length, ls_extract, List.length_drop, List.length_take, ls_length]
    omega
  refine Ev.iteF ?_ (Ev.now _)
  have e2 : cat [b.extract 0 (b.size - 4)] = (ls b).take (b.size - 4) := by simp [cat, ls_extract]
  rw [e2]
  intro hh
  exact h (by omega)
theorem Open_short (b : ByteArray) (h4 : b.size < 4) : Ev (fun k => sum_Open.f k b) ((⟨#[]⟩ : ByteArray), 5) := by
  have e1 : wrap64 ((b.size : Int) - 4) = (b.size : Int) - 4 := wrap64_id (by omega) (by omega)
  unfold sum_Open.f
  rw [e1]
  exact Ev.iteT (by omega) (Ev.now _)
theorem Seal_ev (s : ByteArray) (hs : s.size ≤ 140737488355328) : Ev (fun k => sum_Seal.f k s) (s ++ ba (be 4 (crc (ls s)))) := by
  unfold sum_Seal.f
  refine Ev.bind (Crc_ev _ (by simp) ?_) ?_
  · intro x hx
    simp only [List.mem_cons, List.not_mem_nil, or_false] at hx
    subst hx
    exact hs
  have e2 : cat [s] = ls s := by simp [cat]
  rw [e2]
  refine Ev.bind (four_ev _ (crc_lt _)) (Ev.iteT (by simp; omega) (Ev.now _))

/-- The bytes of a sealed text, one of them changed: no seal. -/
theorem sealed_change (l : List UInt8) (k : Nat) (c : UInt8) (hk : k < l.length + 4) (hc : c ≠ (l ++ be 4 (crc l)).getD k 0) :
    unL 0 ((((l ++ be 4 (crc l)).set k c).drop l.length).take 4) ≠ crc (((l ++ be 4 (crc l)).set k c).take l.length) := by
  have hcl := crc_lt l
  have hun : unL 0 (be 4 (crc l)) = crc l := by
    rw [unL_be, Nat.zero_mul, Nat.zero_add, Nat.mod_eq_of_lt (by omega)]
  intro h
  by_cases ck : k < l.length
  · rw [List.set_append_left _ _ ck, List.drop_left' (by simp), List.take_left' (by simp), List.take_of_length_le (by simp), hun] at h
    rw [List.getD_eq_getElem?_getD, List.getElem?_append_left ck] at hc
    rw [List.getElem?_eq_getElem ck] at hc
    have e1 : l = l.take k ++ l[k] :: l.drop (k + 1) := by
      rw [← List.drop_eq_getElem_cons ck, List.take_append_drop]
    have e2 : l.set k c = l.take k ++ c :: l.drop (k + 1) := by
      rw [List.set_eq_take_append_cons_drop, if_pos ck]
    rw [e2] at h
    have h2 : crc (l.take k ++ l[k] :: l.drop (k + 1)) = crc (l.take k ++ c :: l.drop (k + 1)) := by rw [← e1]; exact h
    exact hc (crc_change _ _ _ _ h2).symm
  · rw [List.set_append_right _ _ (by omega), List.drop_left, List.take_left, List.take_of_length_le (by simp)] at h
    have h2 : unL 0 ((be 4 (crc l)).set (k - l.length) c) = unL 0 (be 4 (crc l)) := by rw [h, hun]
    have h3 := unL_inj _ _ (by simp) h2
    have hk2 : k - l.length < (be 4 (crc l)).length := by simp; omega
    rw [List.getD_eq_getElem?_getD, List.getElem?_append_right (by omega), List.getElem?_eq_getElem hk2] at hc
    apply hc
    have h4 := List.getElem_set_self (l := be 4 (crc l)) (i := k - l.length) (a := c) (by simpa using hk2)
    simp only [h3] at h4
    exact h4.symm
end Go.Proofs.Ytghfkihmiamblaa.Pure
