/- The bytes of parts, in plain words: what Put answers, and the order of the bytes. -/
import Derived.Test.YtbejofbbmpmnfaaDoorPAllx1
import Derived.Test.YtbejofbbmpmnfaaDoorPAllx8
import Derived.Test.YtbejofbbmpmnfaaDoorOkeyLong
import Derived.Test.YtbejofbbmpmnfaaDoorLex
set_option linter.unusedSimpArgs false
set_option linter.unusedVariables false
namespace Go.Proofs.YtbejofbbmpmnfaaDoor.Pure
open Go.RowKit Go.Proofs.YtbejofbbmpmnfaaDoor.PAll Go.Proofs.YtbejofbbmpmnfaaDoorW.PrintWords Go.Proofs.YtbejofbbmpmnfaaDoorW.PrintMore Go.Proofs.YtbejofbbmpmnfaaDoor.Pb

abbrev Pt := S35
/-- A part's bytes. -/
def pt (x : Pt) : List UInt8 := if x.f0 = 1 then tx (ls x.f1) else if x.f0 = 2 then be 8 x.f2.toNat else be 8 (up x.f3)
structure Fine (x : Pt) : Prop where
  k1 : 1 ≤ x.f0
  k3 : x.f0 ≤ 3
  s : x.f1.size ≤ 1000000
  n0 : 0 ≤ x.f2
  n1 : x.f2 < 18446744073709551616
  i0 : -9223372036854775808 ≤ x.f3
  i1 : x.f3 ≤ 9223372036854775807
theorem pt_length (x : Pt) (h : Fine x) : (pt x).length ≤ 3000000 := by
  unfold pt
  split
  · rw [tx_length, ls_length]
    have h2 : (ls x.f1).count 0 ≤ (ls x.f1).length := List.count_le_length
    rw [ls_length] at h2
    have := h.s
    omega
  · split <;> simp
theorem Put_g : ∀ (l : List Pt) (acc : ByteArray), (∀ x ∈ l, Fine x) → acc.size + l.length * 3000000 ≤ 140737488355328 → Ev (fun k => okey_Put.g k l acc) (acc ++ ba (l.flatMap pt), 0)
  | [], acc, _, _ => by
    rw [show acc ++ ba (List.flatMap pt []) = acc from ls_inj (by simp)]
    exact Ev.now _
  | x :: l, acc, hf, hz => by
    have hx := hf x (by simp)
    have hp := pt_length x hx
    have ih : ∀ t : ByteArray, ls t = pt x → Ev (fun k => if acc.size + t.size ≤ 140737488355328 then okey_Put.g k l (acc ++ t) else none) (acc ++ ba (List.flatMap pt (x :: l)), 0) := by
      intro t ht
      have hts : t.size ≤ 3000000 := by rw [← ls_length, ht]; exact hp
      rw [List.length_cons, Nat.succ_mul] at hz
      refine Ev.iteT (by omega) ?_
      have h := Put_g l (acc ++ t) (fun y hy => hf y (by simp [hy])) (by rw [ByteArray.size_append]; omega)
      rw [show acc ++ t ++ ba (List.flatMap pt l) = acc ++ ba (List.flatMap pt (x :: l)) from ls_inj (by simp [ht, List.flatMap_cons])] at h
      exact h
    by_cases c1 : x.f0 = 1
    · exact Ev.congr (fun k => by rw [okey_Put.g, if_pos c1]) (Ev.bindC (Text_eq x.f1 (by have := hx.s; omega)) (ih _ (by rw [ls_ba, pt, if_pos c1])))
    by_cases c2 : x.f0 = 2
    · have hn := Num_ev x.f2.toNat (by have := hx.n0; have := hx.n1; omega)
      rw [Int.toNat_of_nonneg hx.n0] at hn
      exact Ev.congr (fun k => by rw [okey_Put.g, if_neg c1, if_pos c2]) (Ev.bind hn (ih _ (by rw [ls_ba, pt, if_neg c1, if_pos c2])))
    · have c3 : x.f0 = 3 := by have := hx.k1; have := hx.k3; omega
      exact Ev.congr (fun k => by rw [okey_Put.g, if_neg c1, if_neg c2, if_pos c3]) (Ev.bind (Int_ev x.f3 hx.i0 hx.i1) (ih _ (by rw [ls_ba, pt, if_neg c1, if_neg c2])))
theorem Put_ev (l : List Pt) (hf : ∀ x ∈ l, Fine x) (hz : l.length ≤ 1000) : Ev (fun k => okey_Put.f k l) (ba (l.flatMap pt), 0) := by
  have h := Put_g l ⟨#[]⟩ hf (by show 0 + _ ≤ _; omega)
  rw [show (⟨#[]⟩ : ByteArray) ++ ba (List.flatMap pt l) = ba (l.flatMap pt) from ls_inj (by simp [ls_mk])] at h
  exact h

theorem list_tri : ∀ a b : List UInt8, a < b ∨ a = b ∨ b < a
  | [], [] => .inr (.inl rfl)
  | [], c :: b => .inl (nil_lt c b)
  | c :: a, [] => .inr (.inr (nil_lt c a))
  | c :: a, d :: b => by
    rcases u8_tri c d with h | rfl | h
    · exact .inl (lt_cons.2 (.inl h))
    · rcases list_tri a b with h | rfl | h
      · exact .inl (lt_cons.2 (.inr ⟨rfl, h⟩))
      · exact .inr (.inl rfl)
      · exact .inr (.inr (lt_cons.2 (.inr ⟨rfl, h⟩)))
    · exact .inr (.inr (lt_cons.2 (.inl h)))
theorem u8_pos (c : UInt8) (h : c ≠ 0) : (0 : UInt8) < c ∧ ¬ c < 0 := by
  have h2 : c.toNat ≠ 0 := fun e => h (UInt8.toNat_inj.1 e)
  exact ⟨UInt8.lt_iff_toNat_lt.2 (by show 0 < c.toNat; omega), fun e => by have := UInt8.lt_iff_toNat_lt.1 e; simp at this⟩
theorem tx_nil : tx [] = [0, 1] := rfl
theorem tx_zero (l : List UInt8) : tx (0 :: l) = 0 :: 255 :: tx l := by simp [tx, rep0]
theorem tx_cons (c : UInt8) (l : List UInt8) (h : c ≠ 0) : tx (c :: l) = c :: tx l := by simp [tx, rep0, h]
theorem tx_lt (x y : List UInt8) : ∀ a b : List UInt8, tx a ++ x < tx b ++ y ↔ a < b ∨ a = b ∧ x < y
  | [], [] => by
    rw [tx_nil, app_lt]
    exact ⟨fun h => .inr ⟨rfl, h⟩, fun h => h.elim (fun h => absurd h (lt_irr _)) fun h => h.2⟩
  | [], c :: b => by
    refine ⟨fun _ => .inl (nil_lt c b), fun _ => ?_⟩
    by_cases c0 : c = 0
    · subst c0
      rw [tx_nil, tx_zero]
      exact lt_cons.2 (.inr ⟨rfl, lt_cons.2 (.inl (by decide))⟩)
    · rw [tx_nil, tx_cons c b c0]
      exact lt_cons.2 (.inl (u8_pos c c0).1)
  | c :: a, [] => by
    refine ⟨fun h => ?_, fun h => h.elim (fun h => absurd h (not_lt_nil _)) fun h => by cases h.1⟩
    by_cases c0 : c = 0
    · subst c0
      rw [tx_nil, tx_zero] at h
      rcases lt_cons.1 h with h | ⟨_, h⟩
      · exact absurd h (u8_irr 0)
      · rcases lt_cons.1 h with h | ⟨h, _⟩
        · exact absurd h (by decide)
        · exact absurd h (by decide)
    · rw [tx_nil, tx_cons c a c0] at h
      rcases lt_cons.1 h with h | ⟨h, _⟩
      · exact absurd h (u8_pos c c0).2
      · exact absurd h c0
  | c :: a, d :: b => by
    have ih := tx_lt x y a b
    by_cases c0 : c = 0
    · subst c0
      by_cases d0 : d = 0
      · subst d0
        rw [tx_zero, tx_zero, List.cons_append, List.cons_append, List.cons_append, List.cons_append]
        rw [show (0 :: 255 :: (tx a ++ x) < 0 :: 255 :: (tx b ++ y)) ↔ (tx a ++ x < tx b ++ y) from app_lt [0, 255] _ _, ih]
        rw [show ((0 : UInt8) :: a < 0 :: b) ↔ a < b from app_lt [0] a b]
        simp
      · rw [tx_zero, tx_cons d b d0]
        exact ⟨fun _ => .inl (lt_cons.2 (.inl (u8_pos d d0).1)), fun _ => lt_cons.2 (.inl (u8_pos d d0).1)⟩
    · by_cases d0 : d = 0
      · subst d0
        rw [tx_cons c a c0, tx_zero]
        constructor
        · intro h
          rcases lt_cons.1 h with h | ⟨h, _⟩
          · exact absurd h (u8_pos c c0).2
          · exact absurd h c0
        · rintro (h | ⟨h, _⟩)
          · rcases lt_cons.1 h with h | ⟨h, _⟩
            · exact absurd h (u8_pos c c0).2
            · exact absurd h c0
          · exact absurd (List.cons.inj h).1 c0
      · rw [tx_cons c a c0, tx_cons d b d0, List.cons_append, List.cons_append, lt_cons, lt_cons, ih]
        constructor
        · rintro (h | ⟨rfl, h | ⟨rfl, h⟩⟩)
          · exact .inl (.inl h)
          · exact .inl (.inr ⟨rfl, h⟩)
          · exact .inr ⟨rfl, h⟩
        · rintro ((h | ⟨rfl, h⟩) | ⟨h, h2⟩)
          · exact .inl h
          · exact .inr ⟨rfl, .inl h⟩
          · obtain ⟨rfl, rfl⟩ := List.cons.inj h
            exact .inr ⟨rfl, .inr ⟨rfl, h2⟩⟩
theorem tx_inj (a b x y : List UInt8) (h : tx a ++ x = tx b ++ y) : a = b := by
  rcases list_tri a b with h1 | h1 | h1
  · exact absurd ((tx_lt x y a b).2 (.inl h1)) (by rw [h]; exact lt_irr _)
  · exact h1
  · exact absurd ((tx_lt y x b a).2 (.inl h1)) (by rw [h]; exact lt_irr _)
theorem be_lt (x y : List UInt8) : ∀ (n u v : Nat), be n u ++ x < be n v ++ y ↔ u % 256 ^ n < v % 256 ^ n ∨ u % 256 ^ n = v % 256 ^ n ∧ x < y
  | 0, u, v => by simp [be, ben, Nat.mod_one]
  | n + 1, u, v => by
    have ih := be_lt x y n u v
    have e : ∀ w, be (n + 1) w = UInt8.ofNat (w / 256 ^ n % 256) :: be n w := fun w => rfl
    have f : ∀ w, w % 256 ^ (n + 1) = w / 256 ^ n % 256 * 256 ^ n + w % 256 ^ n := fun w => by
      rw [Nat.pow_succ, Nat.mod_mul, Nat.mul_comm (256 ^ n) (w / 256 ^ n % 256)]
      omega
    have hP : 0 < 256 ^ n := Nat.pow_pos (by omega)
    rw [e, e, f, f, List.cons_append, List.cons_append, lt_cons, ih]
    have hu := Nat.mod_lt u hP
    have hv := Nat.mod_lt v hP
    have du : u / 256 ^ n % 256 < 256 := Nat.mod_lt _ (by omega)
    have dv : v / 256 ^ n % 256 < 256 := Nat.mod_lt _ (by omega)
    generalize u / 256 ^ n % 256 = p at *
    generalize v / 256 ^ n % 256 = q at *
    generalize u % 256 ^ n = r at *
    generalize v % 256 ^ n = t at *
    generalize 256 ^ n = P at *
    have o1 : UInt8.ofNat p < UInt8.ofNat q ↔ p < q := by
      rw [UInt8.lt_iff_toNat_lt, UInt8.toNat_ofNat_of_lt' (by exact du), UInt8.toNat_ofNat_of_lt' (by exact dv)]
    have o2 : UInt8.ofNat p = UInt8.ofNat q ↔ p = q := by
      rw [← UInt8.toNat_inj, UInt8.toNat_ofNat_of_lt' (by exact du), UInt8.toNat_ofNat_of_lt' (by exact dv)]
    rw [o1, o2]
    rcases Nat.lt_trichotomy p q with h | h | h
    · have : p * P + P ≤ q * P := by rw [← Nat.succ_mul]; exact Nat.mul_le_mul_right P h
      exact ⟨fun _ => .inl (by omega), fun _ => .inl h⟩
    · subst h
      constructor
      · rintro (h | ⟨_, h | h⟩)
        · omega
        · exact .inl (by omega)
        · exact .inr ⟨by omega, h.2⟩
      · rintro (h | h)
        · exact .inr ⟨rfl, .inl (by omega)⟩
        · exact .inr ⟨rfl, .inr ⟨by omega, h.2⟩⟩
    · have : q * P + P ≤ p * P := by rw [← Nat.succ_mul]; exact Nat.mul_le_mul_right P h
      constructor
      · rintro (h2 | h2) <;> omega
      · rintro (h2 | h2) <;> omega
theorem be8_lt (x y : List UInt8) (u v : Nat) (hu : u < 18446744073709551616) (hv : v < 18446744073709551616) : be 8 u ++ x < be 8 v ++ y ↔ u < v ∨ u = v ∧ x < y := by
  rw [be_lt, Nat.mod_eq_of_lt (a := u) (by omega), Nat.mod_eq_of_lt (a := v) (by omega)]
theorem be8_lt' (u v : Nat) (hu : u < 18446744073709551616) (hv : v < 18446744073709551616) : be 8 u < be 8 v ↔ u < v := by
  have h := be8_lt [] [] u v hu hv
  rw [List.append_nil, List.append_nil] at h
  rw [h]
  exact ⟨fun h => h.elim id fun h => absurd h.2 (lt_irr _), .inl⟩
end Go.Proofs.YtbejofbbmpmnfaaDoor.Pure
