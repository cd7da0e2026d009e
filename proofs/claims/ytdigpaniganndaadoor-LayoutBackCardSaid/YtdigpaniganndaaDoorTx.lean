/- A text's bytes, their order, and the bytes next to it, in plain words. -/
import Derived.Test.YtdigpaniganndaaDoorPAllx9
import Derived.Test.YtdigpaniganndaaDoorNum0
import Derived.Test.YtdigpaniganndaaDoorLex
set_option linter.unusedSimpArgs false
set_option linter.unusedVariables false
namespace Go.Proofs.YtdigpaniganndaaDoor.Pure
open Go.RowKit Go.Proofs.YtdigpaniganndaaDoor.PAll Go.Proofs.YtdigpaniganndaaDoorW.PrintWords Go.Proofs.YtdigpaniganndaaDoorW.PrintMore Go.Proofs.YtdigpaniganndaaDoor.Pb

/-- A text's bytes. -/
def tx (l : List UInt8) : List UInt8 := rep0 l ++ [0, 1]
theorem tx_length (l : List UInt8) : (tx l).length = l.length + l.count 0 + 2 := by simp [tx, rep0_length]
theorem Text_eq (s : ByteArray) (hs : s.size ≤ 2000000000) : okey_Text.f s = some (ba (tx (ls s))) := by
  have h1 : strings_Replace.f s ⟨#[0]⟩ ⟨#[0, 255]⟩ (-1) = some (ba (rep0 (ls s))) := if_pos ⟨hs, rfl, rfl, rfl⟩
  have h2 : (ba (rep0 (ls s))).size + 2 ≤ 9223372036854775807 := by
    have : (ls s).count 0 ≤ (ls s).length := List.count_le_length
    rw [size_ba, rep0_length]
    rw [ls_length] at *
    omega
  unfold okey_Text.f strings_ReplaceAll.f
  rw [h1]
  show (if (ba (rep0 (ls s))).size + 2 ≤ 9223372036854775807 then some (ba (rep0 (ls s)) ++ (⟨#[0, 1]⟩ : ByteArray)) else none) = _
  rw [if_pos h2]
  exact congrArg some (ls_inj (by simp [tx, ls_mk]))
theorem list_tri : ∀ a b : List UInt8, a < b ∨ a = b ∨ b < a
  | [], [] => .inr (.inl rfl)
  | [], c :: b => .inl (nil_lt c b)
  | c :: a, [] => .inr (.inr (nil_lt c a))
  | c :: a, d :: b => by
    rcases u8_tri c d with h | rfl | h
    · exact .inl (lt_cons.2 (.inl h))
    · rcases list_tri a b with h | rfl | h
      · exact .inl (lt_cons.2 (.inr ⟨rfl, h⟩))
      · exact .inr (.inl rfl)
      · exact .inr (.inr (lt_cons.2 (.inr ⟨rfl, h⟩)))
    · exact .inr (.inr (lt_cons.2 (.inl h)))
theorem u8_pos (c : UInt8) (h : c ≠ 0) : (0 : UInt8) < c ∧ ¬ c < 0 := by
  have h2 : c.toNat ≠ 0 := fun e => h (UInt8.toNat_inj.1 e)
  exact ⟨UInt8.lt_iff_toNat_lt.2 (by show 0 < c.toNat; omega), fun e => by have := UInt8.lt_iff_toNat_lt.1 e; simp at this⟩
theorem tx_nil : tx [] = [0, 1] := rfl
theorem tx_zero (l : List UInt8) : tx (0 :: l) = 0 :: 255 :: tx l := by simp [tx, rep0]
theorem tx_cons (c : UInt8) (l : List UInt8) (h : c ≠ 0) : tx (c :: l) = c :: tx l := by simp [tx, rep0, h]
theorem tx_lt (x y : List UInt8) : ∀ a b : List UInt8, tx a ++ x < tx b ++ y ↔ a < b ∨ a = b ∧ x < y
  | [], [] => by
    rw [tx_nil, app_lt]
    exact ⟨fun h => .inr ⟨rfl, h⟩, fun h => h.elim (fun h => absurd h (lt_irr _)) fun h => h.2⟩
  | [], c :: b => by
    refine ⟨fun _ => .inl (nil_lt c b), fun _ => ?_⟩
    by_cases c0 : c = 0
    · subst c0
      rw [tx_nil, tx_zero]
      exact lt_cons.2 (.inr ⟨rfl, lt_cons.2 (.inl (by decide))⟩)
    · rw [tx_nil, tx_cons c b c0]
      exact lt_cons.2 (.inl (u8_pos c c0).1)
  | c :: a, [] => by
    refine ⟨fun h => ?_, fun h => h.elim (fun h => absurd h (not_lt_nil _)) fun h => by cases h.1⟩
    by_cases c0 : c = 0
    · subst c0
      rw [tx_nil, tx_zero] at h
      rcases lt_cons.1 h with h | ⟨_, h⟩
      · exact absurd h (u8_irr 0)
      · rcases lt_cons.1 h with h | ⟨h, _⟩
        · exact absurd h (by decide)
        · exact absurd h (by decide)
    · rw [tx_nil, tx_cons c a c0] at h
      rcases lt_cons.1 h with h | ⟨h, _⟩
      · exact absurd h (u8_pos c c0).2
      · exact absurd h c0
  | c :: a, d :: b => by
    have ih := tx_lt x y a b
    by_cases c0 : c = 0
    · subst c0
      by_cases d0 : d = 0
      · subst d0
        rw [tx_zero, tx_zero, List.cons_append, List.cons_append, List.cons_append, List.cons_append]
        rw [show (0 :: 255 :: (tx a ++ x) < 0 :: 255 :: (tx b ++ y)) ↔ (tx a ++ x < tx b ++ y) from app_lt [0, 255] _ _, ih]
        rw [show ((0 : UInt8) :: a < 0 :: b) ↔ a < b from app_lt [0] a b]
        simp
      · rw [tx_zero, tx_cons d b d0]
        exact ⟨fun _ => .inl (lt_cons.2 (.inl (u8_pos d d0).1)), fun _ => lt_cons.2 (.inl (u8_pos d d0).1)⟩
    · by_cases d0 : d = 0
      · subst d0
        rw [tx_cons c a c0, tx_zero]
        constructor
        · intro h
          rcases lt_cons.1 h with h | ⟨h, _⟩
          · exact absurd h (u8_pos c c0).2
          · exact absurd h c0
        · rintro (h | ⟨h, _⟩)
          · rcases lt_cons.1 h with h | ⟨h, _⟩
            · exact absurd h (u8_pos c c0).2
            · exact absurd h c0
          · exact absurd (List.cons.inj h).1 c0
      · rw [tx_cons c a c0, tx_cons d b d0, List.cons_append, List.cons_append, lt_cons, lt_cons, ih]
        constructor
        · rintro (h | ⟨rfl, h | ⟨rfl, h⟩⟩)
          · exact .inl (.inl h)
          · exact .inl (.inr ⟨rfl, h⟩)
          · exact .inr ⟨rfl, h⟩
        · rintro ((h | ⟨rfl, h⟩) | ⟨h, h2⟩)
          · exact .inl h
          · exact .inr ⟨rfl, .inl h⟩
          · obtain ⟨rfl, rfl⟩ := List.cons.inj h
            exact .inr ⟨rfl, .inr ⟨rfl, h2⟩⟩
theorem tx_inj (a b x y : List UInt8) (h : tx a ++ x = tx b ++ y) : a = b := by
  rcases list_tri a b with h1 | h1 | h1
  · exact absurd ((tx_lt x y a b).2 (.inl h1)) (by rw [h]; exact lt_irr _)
  · exact h1
  · exact absurd ((tx_lt y x b a).2 (.inl h1)) (by rw [h]; exact lt_irr _)
theorem be_lt (x y : List UInt8) : ∀ (n u v : Nat), be n u ++ x < be n v ++ y ↔ u % 256 ^ n < v % 256 ^ n ∨ u % 256 ^ n = v % 256 ^ n ∧ x < y
  | 0, u, v => by simp [be, ben, Nat.mod_one]
  | n + 1, u, v => by
    have ih := be_lt x y n u v
    have e : ∀ w, be (n + 1) w = UInt8.ofNat (w / 256 ^ n % 256) :: be n w := fun w => rfl
    have f : ∀ w, w % 256 ^ (n + 1) = w / 256 ^ n % 256 * 256 ^ n + w % 256 ^ n := fun w => by
      rw [Nat.pow_succ, Nat.mod_mul, Nat.mul_comm (256 ^ n) (w / 256 ^ n % 256)]
      omega
    have hP : 0 < 256 ^ n := Nat.pow_pos (by omega)
    rw [e, e, f, f, List.cons_append, List.cons_append, lt_cons, ih]
    have hu := Nat.mod_lt u hP
    have hv := Nat.mod_lt v hP
    have du : u / 256 ^ n % 256 < 256 := Nat.mod_lt _ (by omega)
    have dv : v / 256 ^ n % 256 < 256 := Nat.mod_lt _ (by omega)
    generalize u / 256 ^ n % 256 = p at *
    generalize v / 256 ^ n % 256 = q at *
    generalize u % 256 ^ n = r at *
    generalize v % 256 ^ n = t at *
    generalize 256 ^ n = P at *
    have o1 : UInt8.ofNat p < UInt8.ofNat q ↔ p < q := by
      rw [UInt8.lt_iff_toNat_lt, UInt8.toNat_ofNat_of_lt' (by exact du), UInt8.toNat_ofNat_of_lt' (by exact dv)]
    have o2 : UInt8.ofNat p = UInt8.ofNat q ↔ p = q := by
      rw [← UInt8.toNat_inj, UInt8.toNat_ofNat_of_lt' (by exact du), UInt8.toNat_ofNat_of_lt' (by exact dv)]
    rw [o1, o2]
    rcases Nat.lt_trichotomy p q with h | h | h
    · have : p * P + P ≤ q * P := by rw [← Nat.succ_mul]; exact Nat.mul_le_mul_right P h
      exact ⟨fun _ => .inl (by omega), fun _ => .inl h⟩
    · subst h
      constructor
      · rintro (h | ⟨_, h | h⟩)
        · omega
        · exact .inl (by omega)
        · exact .inr ⟨by omega, h.2⟩
      · rintro (h | h)
        · exact .inr ⟨rfl, .inl (by omega)⟩
        · exact .inr ⟨rfl, .inr ⟨by omega, h.2⟩⟩
    · have : q * P + P ≤ p * P := by rw [← Nat.succ_mul]; exact Nat.mul_le_mul_right P h
      constructor
      · rintro (h2 | h2) <;> omega
      · rintro (h2 | h2) <;> omega
theorem be8_lt (x y : List UInt8) (u v : Nat) (hu : u < 18446744073709551616) (hv : v < 18446744073709551616) : be 8 u ++ x < be 8 v ++ y ↔ u < v ∨ u = v ∧ x < y := by
  rw [be_lt, Nat.mod_eq_of_lt (a := u) (by omega), Nat.mod_eq_of_lt (a := v) (by omega)]
theorem be8_lt' (u v : Nat) (hu : u < 18446744073709551616) (hv : v < 18446744073709551616) : be 8 u < be 8 v ↔ u < v := by
  have h := be8_lt [] [] u v hu hv
  rw [List.append_nil, List.append_nil] at h
  rw [h]
  exact ⟨fun h => h.elim id fun h => absurd h.2 (lt_irr _), .inl⟩
end Go.Proofs.YtdigpaniganndaaDoor.Pure
