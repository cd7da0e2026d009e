import Derived.Test.YtdigpaniganndaaDoorPAllx11
import Derived.Test.YtdigpaniganndaaDoorPAllx4
import Derived.Test.YtdigpaniganndaaDoorPb
import Derived.Sort.Walk0
import Derived.Test.YtdigpaniganndaaDoorPAllx9
import Derived.Test.YtdigpaniganndaaDoorPAllx17
import Derived.Test.YtdigpaniganndaaDoorPAllx10
import Derived.Test.YtdigpaniganndaaDoorPAllx0
import Derived.Test.YtdigpaniganndaaDoorPAllx3
import Derived.Test.YtdigpaniganndaaDoorPAllx5
import Derived.Test.YtdigpaniganndaaDoorPAllx6
import Derived.Test.YtdigpaniganndaaDoorPAllx7
import Derived.Test.YtdigpaniganndaaDoorPAllx8
import Derived.Test.YtdigpaniganndaaDoorPAllx18
import Derived.Test.YtdigpaniganndaaDoorPAllx19
import Derived.Test.YtdigpaniganndaaDoorPAllx20
import Derived.Test.YtdigpaniganndaaDoorPAllx21
import Derived.Test.YtdigpaniganndaaDoorPAllx22
import Derived.Test.YtdigpaniganndaaDoorPAllx12
import Derived.Test.YtdigpaniganndaaDoorPAllx13
import Derived.Test.YtdigpaniganndaaDoorPAllx14
import Derived.Test.YtdigpaniganndaaDoorPAllx15
import Derived.Test.YtdigpaniganndaaDoorPAllx16
import Derived.Test.YtdigpaniganndaaDoorPAllx23
section
set_option linter.unusedSimpArgs false
set_option linter.unusedVariables false
namespace Go.Proofs.YtdigpaniganndaaDoor.Pure
open Go.RowKit Go.Proofs.YtdigpaniganndaaDoor.PAll Go.Proofs.YtdigpaniganndaaDoorW.PrintWords Go.Proofs.YtdigpaniganndaaDoorW.PrintMore Go.Proofs.YtdigpaniganndaaDoor.Pb

/-- The n lowest bytes of v, the highest first. -/
def ben : Nat → Nat → List Nat
  | 0, _ => []
  | n + 1, v => v / 256 ^ n % 256 :: ben n v
def be (n v : Nat) : List UInt8 := (ben n v).map UInt8.ofNat
theorem ben_length : ∀ n v, (ben n v).length = n
  | 0, _ => rfl
  | n + 1, v => by simp [ben, ben_length n v]
@[simp] theorem be_length (n v : Nat) : (be n v).length = n := by simp [be, ben_length]
def unL (a : Nat) (l : List UInt8) : Nat := l.foldl (fun v c => v * 256 + c.toNat) a
theorem unL_be : ∀ (n a v : Nat), unL a (be n v) = a * 256 ^ n + v % 256 ^ n
  | 0, a, v => by simp [unL, be, ben, Nat.mod_one]
  | n + 1, a, v => by
    have h := unL_be n (a * 256 + v / 256 ^ n % 256) v
    have e : (UInt8.ofNat (v / 256 ^ n % 256)).toNat = v / 256 ^ n % 256 := by simp
    simp only [unL, be, ben, List.map_cons, List.foldl_cons, e] at h ⊢
    rw [h, Nat.pow_succ, Nat.mod_mul, Nat.add_mul]
    rw [Nat.mul_comm (256 ^ n) 256, Nat.mul_assoc, Nat.mul_comm (256 ^ n) (v / 256 ^ n % 256)]
    omega
theorem unL_lt : ∀ (l : List UInt8) (a i : Nat), a < 256 ^ i → unL a l < 256 ^ (i + l.length)
  | [], a, i, h => h
  | c :: l, a, i, h => by
    have h2 : a * 256 + c.toNat < 256 ^ (i + 1) := by
      have := c.toNat_lt
      rw [Nat.pow_succ]; omega
    have := unL_lt l (a * 256 + c.toNat) (i + 1) h2
    rw [List.length_cons, show i + (l.length + 1) = i + 1 + l.length by omega]
    exact this
theorem pow256 (n : Nat) : 256 ^ n = 2 ^ (8 * n) := by rw [Nat.pow_mul]
theorem shr_div (v m : Nat) (h : m ≤ 8) : shr .u64 (v : Int) ((8 * m : Nat) : Int) = ((v / 256 ^ m : Nat) : Int) := by
  unfold shr
  rw [Int.toNat_natCast, show min (8 * m) IntKind.u64.bits = 8 * m from Nat.min_eq_left (by show 8 * m ≤ 64; omega), pow256]
  norm_cast
theorem set_take (xs : List Int) (i : Nat) (d : Int) (h : i < xs.length) : (xs.set i d).take (i + 1) = xs.take i ++ [d] := by
  rw [List.set_eq_take_append_cons_drop, if_pos h, List.take_append, List.length_take, Nat.min_eq_left (Nat.le_of_lt h), List.take_take]
  rw [Nat.min_eq_right (by omega), show i + 1 - i = 1 by omega]
  rfl
theorem fix_l0 (v n : Nat) (hn : n ≤ 8) : ∀ (m i : Nat) (xs : List Int), xs.length = n → i + m = n →
    Ev (fun k => num_Fix.l0 k (v : Int) (n : Int) xs (n : Int) (i : Int)) (strOfNums (xs.take i ++ (ben m v).map fun d : Nat => (d : Int)), 0)
  | 0, i, xs, hl, hi => by
    refine Ev.step (fun k => if_neg (by omega)) ?_
    rw [List.take_of_length_le (by omega)]
    simp only [ben, List.map_nil, List.append_nil]
    exact Ev.now _
  | m + 1, i, xs, hl, hi => by
    have e1 : wrap64 ((n : Int) - 1) = (n : Int) - 1 := wrap64_id (by omega) (by omega)
    have e2 : wrap64 ((n : Int) - 1 - (i : Int)) = (m : Int) := by rw [show (n : Int) - 1 - (i : Int) = (m : Int) by omega]; exact wrap64_id (by omega) (by omega)
    have e3 : wrap64 (8 * (m : Int)) = ((8 * m : Nat) : Int) := by rw [wrap64_id (by omega) (by omega)]; omega
    have e4 : wrap64 ((i : Int) + 1) = ((i + 1 : Nat) : Int) := by rw [wrap64_id (by omega) (by omega)]; omega
    have e5 : shr .u64 (v : Int) ((8 * m : Nat) : Int) % 256 = ((v / 256 ^ m % 256 : Nat) : Int) := by rw [shr_div v m (by omega)]; omega
    refine Ev.step (fun k => (if_pos (by omega)).trans ((if_pos (by rw [e1, e2, e3]; omega)).trans ((if_pos (by omega)).trans (if_pos (by omega))))) ?_
    rw [e1, e2, e3, e4, e5, Int.toNat_natCast]
    have h := fix_l0 v n hn m (i + 1) (xs.set i ((v / 256 ^ m % 256 : Nat) : Int)) (by rw [List.length_set]; exact hl) (by omega)
    rw [set_take xs i _ (by omega), List.append_assoc] at h
    exact h
theorem fix_j0 (v n : Nat) (hn : n ≤ 8) : Ev (fun k => num_Fix.j0 k (v : Int) (n : Int) false) (ba (be n v), 0) := by
  refine Ev.step (fun k => (num_Fix.j0.eq_2 _ _ _ _).trans ((if_neg (by simp)).trans ((if_pos (by omega)).trans (if_pos (by omega))))) ?_
  refine Ev.someBind ?_
  rw [Int.toNat_natCast, List.length_replicate]
  have h := fix_l0 v n hn n 0 (List.replicate n 0) (by simp) (by omega)
  rw [List.take_zero, List.nil_append] at h
  have e : strOfNums ((ben n v).map fun d : Nat => (d : Int)) = ba (be n v) := by
    apply ls_inj; rw [ls_strOfNums, ls_ba]; rfl
  rw [e] at h
  exact h
theorem Fix_ev (v n : Nat) (h1 : 1 ≤ n) (hn : n ≤ 8) (hv : v < 256 ^ n) : Ev (fun k => num_Fix.f k (v : Int) (n : Int)) (ba (be n v), 0) := by
  unfold num_Fix.f
  refine Ev.iteF (by omega) (Ev.iteF (by omega) ?_)
  have h := fix_j0 v n hn
  by_cases h8 : (n : Int) < 8
  · have e3 : wrap64 (8 * (n : Int)) = ((8 * n : Nat) : Int) := by rw [wrap64_id (by omega) (by omega)]; omega
    refine Ev.iteT h8 ?_
    rw [e3]
    refine Ev.iteT (by omega) ?_
    rw [shr_div v n (by omega), Nat.div_eq_of_lt hv]
    exact h
  · exact Ev.iteF h8 h

theorem or_add (v c : Nat) (h : c < 256) : v * 256 ||| c = v * 256 + c := by
  have := Nat.shiftLeft_add_eq_or_of_lt (b := c) (i := 8) h v
  rw [Nat.shiftLeft_eq] at this
  exact this.symm
theorem unfix_l0 (b : ByteArray) (t n : Nat) (hn : n ≤ 8) (hb : t + n ≤ b.size) (hs : b.size ≤ 9223372036854775807) : ∀ (m i v : Nat), i + m = n → v < 256 ^ i →
    Ev (fun k => num_Unfix.l0 k b (t : Int) (v : Int) (n : Int) (i : Int)) (((unL v (((ls b).drop (t + i)).take m) : Nat) : Int), 0)
  | 0, i, v, hi, hv => by
    refine Ev.step (fun k => if_neg (by omega)) ?_
    rw [List.take_zero]
    exact Ev.now _
  | m + 1, i, v, hi, hv => by
    have e1 : wrap64 ((t : Int) + (i : Int)) = ((t + i : Nat) : Int) := by rw [wrap64_id (by omega) (by omega)]; omega
    have e4 : wrap64 ((i : Int) + 1) = ((i + 1 : Nat) : Int) := by rw [wrap64_id (by omega) (by omega)]; omega
    have hc := ((ls b).getD (t + i) 0).toNat_lt
    have hv7 : v < 256 ^ 7 := Nat.lt_of_lt_of_le hv (Nat.pow_le_pow_right (by omega) (by omega))
    have e2 : IntKind.u64.wrap ((v : Int) * 256) = ((v * 256 : Nat) : Int) := by rw [u64_id (by omega) (by omega)]; omega
    have e3 : bt b ((t + i : Nat) : Int) = (((ls b).getD (t + i) 0).toNat : Int) := bt_ls b _
    have e5 : IntKind.u64.wrap ((((ls b).getD (t + i) 0).toNat : Nat) : Int) = ((((ls b).getD (t + i) 0).toNat : Nat) : Int) := u64_id (by omega) (by omega)
    refine Ev.step (fun k => (if_pos (by omega)).trans ((if_pos (by rw [e1]; omega)).trans (if_pos (by rw [e1]; omega)))) ?_
    rw [e1, e2, e3, e4, e5, u64_or_nat _ _ (by omega) (by omega), or_add _ _ (by omega)]
    have h := unfix_l0 b t n hn hb hs m (i + 1) (v * 256 + ((ls b).getD (t + i) 0).toNat) (by omega) (by rw [Nat.pow_succ]; omega)
    rw [drop_cons 0 (ls b) (t + i) (by rw [ls_length]; omega), List.take_succ_cons]
    exact h
theorem Unfix_ev (b : ByteArray) (t n : Nat) (h1 : 1 ≤ n) (hn : n ≤ 8) (hb : t + n ≤ b.size) (hs : b.size ≤ 9223372036854775807) :
    Ev (fun k => num_Unfix.f k b (t : Int) (n : Int)) (((unL 0 (((ls b).drop t).take n) : Nat) : Int), 0) := by
  unfold num_Unfix.f
  refine Ev.iteF (by omega) (Ev.iteF (by omega) ?_)
  rw [show decide ((t : Int) < 0) = false from decide_eq_false (by omega)]
  have e1 : wrap64 ((b.size : Int) - (t : Int)) = (b.size : Int) - (t : Int) := wrap64_id (by omega) (by omega)
  refine Ev.step (fun k => (num_Unfix.j0.eq_2 _ _ _ _ _).trans ((if_neg (by simp)).trans ((if_neg (by omega)).trans (if_neg (by rw [e1]; omega))))) ?_
  have h := unfix_l0 b t n hn hb hs n 0 0 (by omega) (by simp)
  rw [Nat.add_zero] at h
  exact h
theorem Unfix_short (b : ByteArray) (t n : Nat) (h1 : 1 ≤ n) (hn : n ≤ 8) (hb : b.size < t + n) (ht : t ≤ 9223372036854775807) (hs : b.size ≤ 9223372036854775807) :
    Ev (fun k => num_Unfix.f k b (t : Int) (n : Int)) (0, 5) := by
  unfold num_Unfix.f
  refine Ev.iteF (by omega) (Ev.iteF (by omega) ?_)
  rw [show decide ((t : Int) < 0) = false from decide_eq_false (by omega)]
  have e1 : wrap64 ((b.size : Int) - (t : Int)) = (b.size : Int) - (t : Int) := wrap64_id (by omega) (by omega)
  by_cases c : (t : Int) > (b.size : Int)
  · exact Ev.step (fun k => (num_Unfix.j0.eq_2 _ _ _ _ _).trans ((if_neg (by simp)).trans (if_pos c))) (Ev.now _)
  · exact Ev.step (fun k => (num_Unfix.j0.eq_2 _ _ _ _ _).trans ((if_neg (by simp)).trans ((if_neg c).trans (if_pos (by rw [e1]; omega))))) (Ev.now _)
end Go.Proofs.YtdigpaniganndaaDoor.Pure
end

section
set_option linter.unusedSimpArgs false
set_option linter.unusedVariables false
namespace Go.Proofs.YtdigpaniganndaaDoor.Pure
open Go.RowKit Go.Proofs.YtdigpaniganndaaDoorW.PrintWords Go.Proofs.YtdigpaniganndaaDoorW.PrintMore Go.Proofs.YtdigpaniganndaaDoor.Pb

theorem less_eq (a b : ByteArray) : Op.bytesLess a.toList b.toList = decide (ls a < ls b) := by
  rw [Go.Proofs.bytesLess_eq, toList_ls, toList_ls]
theorem lt_cons {a b : UInt8} {x y : List UInt8} : a :: x < b :: y ↔ a < b ∨ a = b ∧ x < y := List.cons_lt_cons_iff
theorem u8_tri (a b : UInt8) : a < b ∨ a = b ∨ b < a := by
  rcases Nat.lt_trichotomy a.toNat b.toNat with h | h | h
  · exact .inl (UInt8.lt_iff_toNat_lt.2 h)
  · exact .inr (.inl (UInt8.toNat_inj.1 h))
  · exact .inr (.inr (UInt8.lt_iff_toNat_lt.2 h))
theorem u8_irr (a : UInt8) : ¬ a < a := fun h => Nat.lt_irrefl _ (UInt8.lt_iff_toNat_lt.1 h)
theorem u8_asym {a b : UInt8} (h : a < b) : ¬ b < a := fun h2 => Nat.lt_asymm (UInt8.lt_iff_toNat_lt.1 h) (UInt8.lt_iff_toNat_lt.1 h2)
theorem lt_irr : ∀ l : List UInt8, ¬ l < l
  | [], h => by cases h
  | a :: l, h => (lt_cons.1 h).elim (u8_irr a) fun h => lt_irr l h.2
theorem app_lt : ∀ (p a b : List UInt8), p ++ a < p ++ b ↔ a < b
  | [], a, b => Iff.rfl
  | c :: p, a, b => by
    rw [List.cons_append, List.cons_append, lt_cons]
    exact ⟨fun h => h.elim (fun h => absurd h (u8_irr c)) fun h => (app_lt p a b).1 h.2, fun h => .inr ⟨rfl, (app_lt p a b).2 h⟩⟩
theorem nil_lt (c : UInt8) (l : List UInt8) : [] < c :: l := List.nil_lt_cons c l
theorem not_lt_nil (l : List UInt8) : ¬ l < [] := List.not_lt_nil l
end Go.Proofs.YtdigpaniganndaaDoor.Pure
end

section
set_option linter.unusedSimpArgs false
set_option linter.unusedVariables false
namespace Go.Proofs.YtdigpaniganndaaDoor.Pure
open Go.RowKit Go.Proofs.YtdigpaniganndaaDoor.PAll Go.Proofs.YtdigpaniganndaaDoorW.PrintWords Go.Proofs.YtdigpaniganndaaDoorW.PrintMore Go.Proofs.YtdigpaniganndaaDoor.Pb

/-- A text's bytes. -/
def tx (l : List UInt8) : List UInt8 := rep0 l ++ [0, 1]
theorem tx_length (l : List UInt8) : (tx l).length = l.length + l.count 0 + 2 := by simp [tx, rep0_length]
theorem Text_eq (s : ByteArray) (hs : s.size ≤ 2000000000) : okey_Text.f s = some (ba (tx (ls s))) := by
  have h1 : strings_Replace.f s ⟨#[0]⟩ ⟨#[0, 255]⟩ (-1) = some (ba (rep0 (ls s))) := if_pos ⟨hs, rfl, rfl, rfl⟩
  have h2 : (ba (rep0 (ls s))).size + 2 ≤ 9223372036854775807 := by
    have : (ls s).count 0 ≤ (ls s).length := List.count_le_length
    rw [size_ba, rep0_length]
    rw [ls_length] at *
    omega
  unfold okey_Text.f strings_ReplaceAll.f
  rw [h1]
  show (if (ba (rep0 (ls s))).size + 2 ≤ 9223372036854775807 then some (ba (rep0 (ls s)) ++ (⟨#[0, 1]⟩ : ByteArray)) else none) = _
  rw [if_pos h2]
  exact congrArg some (ls_inj (by simp [tx, ls_mk]))
theorem list_tri : ∀ a b : List UInt8, a < b ∨ a = b ∨ b < a
  | [], [] => .inr (.inl rfl)
  | [], c :: b => .inl (nil_lt c b)
  | c :: a, [] => .inr (.inr (nil_lt c a))
  | c :: a, d :: b => by
    rcases u8_tri c d with h | rfl | h
    · exact .inl (lt_cons.2 (.inl h))
    · rcases list_tri a b with h | rfl | h
      · exact .inl (lt_cons.2 (.inr ⟨rfl, h⟩))
      · exact .inr (.inl rfl)
      · exact .inr (.inr (lt_cons.2 (.inr ⟨rfl, h⟩)))
    · exact .inr (.inr (lt_cons.2 (.inl h)))
theorem u8_pos (c : UInt8) (h : c ≠ 0) : (0 : UInt8) < c ∧ ¬ c < 0 := by
  have h2 : c.toNat ≠ 0 := fun e => h (UInt8.toNat_inj.1 e)
  exact ⟨UInt8.lt_iff_toNat_lt.2 (by show 0 < c.toNat; omega), fun e => by have := UInt8.lt_iff_toNat_lt.1 e; simp at this⟩
theorem tx_nil : tx [] = [0, 1] := rfl
theorem tx_zero (l : List UInt8) : tx (0 :: l) = 0 :: 255 :: tx l := by simp [tx, rep0]
theorem tx_cons (c : UInt8) (l : List UInt8) (h : c ≠ 0) : tx (c :: l) = c :: tx l := by simp [tx, rep0, h]
theorem tx_lt (x y : List UInt8) : ∀ a b : List UInt8, tx a ++ x < tx b ++ y ↔ a < b ∨ a = b ∧ x < y
  | [], [] => by
    rw [tx_nil, app_lt]
    exact ⟨fun h => .inr ⟨rfl, h⟩, fun h => h.elim (fun h => absurd h (lt_irr _)) fun h => h.2⟩
  | [], c :: b => by
    refine ⟨fun _ => .inl (nil_lt c b), fun _ => ?_⟩
    by_cases c0 : c = 0
    · subst c0
      rw [tx_nil, tx_zero]
      exact lt_cons.2 (.inr ⟨rfl, lt_cons.2 (.inl (by decide))⟩)
    · rw [tx_nil, tx_cons c b c0]
      exact lt_cons.2 (.inl (u8_pos c c0).1)
  | c :: a, [] => by
    refine ⟨fun h => ?_, fun h => h.elim (fun h => absurd h (not_lt_nil _)) fun h => by cases h.1⟩
    by_cases c0 : c = 0
    · subst c0
      rw [tx_nil, tx_zero] at h
      rcases lt_cons.1 h with h | ⟨_, h⟩
      · exact absurd h (u8_irr 0)
      · rcases lt_cons.1 h with h | ⟨h, _⟩
        · exact absurd h (by decide)
        · exact absurd h (by decide)
    · rw [tx_nil, tx_cons c a c0] at h
      rcases lt_cons.1 h with h | ⟨h, _⟩
      · exact absurd h (u8_pos c c0).2
      · exact absurd h c0
  | c :: a, d :: b => by
    have ih := tx_lt x y a b
    by_cases c0 : c = 0
    · subst c0
      by_cases d0 : d = 0
      · subst d0
        rw [tx_zero, tx_zero, List.cons_append, List.cons_append, List.cons_append, List.cons_append]
        rw [show (0 :: 255 :: (tx a ++ x) < 0 :: 255 :: (tx b ++ y)) ↔ (tx a ++ x < tx b ++ y) from app_lt [0, 255] _ _, ih]
        rw [show ((0 : UInt8) :: a < 0 :: b) ↔ a < b from app_lt [0] a b]
        simp
      · rw [tx_zero, tx_cons d b d0]
        exact ⟨fun _ => .inl (lt_cons.2 (.inl (u8_pos d d0).1)), fun _ => lt_cons.2 (.inl (u8_pos d d0).1)⟩
    · by_cases d0 : d = 0
      · subst d0
        rw [tx_cons c a c0, tx_zero]
        constructor
        · intro h
          rcases lt_cons.1 h with h | ⟨h, _⟩
          · exact absurd h (u8_pos c c0).2
          · exact absurd h c0
        · rintro (h | ⟨h, _⟩)
          · rcases lt_cons.1 h with h | ⟨h, _⟩
            · exact absurd h (u8_pos c c0).2
            · exact absurd h c0
          · exact absurd (List.cons.inj h).1 c0
      · rw [tx_cons c a c0, tx_cons d b d0, List.cons_append, List.cons_append, lt_cons, lt_cons, ih]
        constructor
        · rintro (h | ⟨rfl, h | ⟨rfl, h⟩⟩)
          · exact .inl (.inl h)
          · exact .inl (.inr ⟨rfl, h⟩)
          · exact .inr ⟨rfl, h⟩
        · rintro ((h | ⟨rfl, h⟩) | ⟨h, h2⟩)
          · exact .inl h
          · exact .inr ⟨rfl, .inl h⟩
          · obtain ⟨rfl, rfl⟩ := List.cons.inj h
            exact .inr ⟨rfl, .inr ⟨rfl, h2⟩⟩
theorem tx_inj (a b x y : List UInt8) (h : tx a ++ x = tx b ++ y) : a = b := by
  rcases list_tri a b with h1 | h1 | h1
  · exact absurd ((tx_lt x y a b).2 (.inl h1)) (by rw [h]; exact lt_irr _)
  · exact h1
  · exact absurd ((tx_lt y x b a).2 (.inl h1)) (by rw [h]; exact lt_irr _)
theorem be_lt (x y : List UInt8) : ∀ (n u v : Nat), be n u ++ x < be n v ++ y ↔ u % 256 ^ n < v % 256 ^ n ∨ u % 256 ^ n = v % 256 ^ n ∧ x < y
  | 0, u, v => by simp [be, ben, Nat.mod_one]
  | n + 1, u, v => by
    have ih := be_lt x y n u v
    have e : ∀ w, be (n + 1) w = UInt8.ofNat (w / 256 ^ n % 256) :: be n w := fun w => rfl
    have f : ∀ w, w % 256 ^ (n + 1) = w / 256 ^ n % 256 * 256 ^ n + w % 256 ^ n := fun w => by
      rw [Nat.pow_succ, Nat.mod_mul, Nat.mul_comm (256 ^ n) (w / 256 ^ n % 256)]
      omega
    have hP : 0 < 256 ^ n := Nat.pow_pos (by omega)
    rw [e, e, f, f, List.cons_append, List.cons_append, lt_cons, ih]
    have hu := Nat.mod_lt u hP
    have hv := Nat.mod_lt v hP
    have du : u / 256 ^ n % 256 < 256 := Nat.mod_lt _ (by omega)
    have dv : v / 256 ^ n % 256 < 256 := Nat.mod_lt _ (by omega)
    generalize u / 256 ^ n % 256 = p at *
    generalize v / 256 ^ n % 256 = q at *
    generalize u % 256 ^ n = r at *
    generalize v % 256 ^ n = t at *
    generalize 256 ^ n = P at *
    have o1 : UInt8.ofNat p < UInt8.ofNat q ↔ p < q := by
      rw [UInt8.lt_iff_toNat_lt, UInt8.toNat_ofNat_of_lt' (by exact du), UInt8.toNat_ofNat_of_lt' (by exact dv)]
    have o2 : UInt8.ofNat p = UInt8.ofNat q ↔ p = q := by
      rw [← UInt8.toNat_inj, UInt8.toNat_ofNat_of_lt' (by exact du), UInt8.toNat_ofNat_of_lt' (by exact dv)]
    rw [o1, o2]
    rcases Nat.lt_trichotomy p q with h | h | h
    · have : p * P + P ≤ q * P := by rw [← Nat.succ_mul]; exact Nat.mul_le_mul_right P h
      exact ⟨fun _ => .inl (by omega), fun _ => .inl h⟩
    · subst h
      constructor
      · rintro (h | ⟨_, h | h⟩)
        · omega
        · exact .inl (by omega)
        · exact .inr ⟨by omega, h.2⟩
      · rintro (h | h)
        · exact .inr ⟨rfl, .inl (by omega)⟩
        · exact .inr ⟨rfl, .inr ⟨by omega, h.2⟩⟩
    · have : q * P + P ≤ p * P := by rw [← Nat.succ_mul]; exact Nat.mul_le_mul_right P h
      constructor
      · rintro (h2 | h2) <;> omega
      · rintro (h2 | h2) <;> omega
theorem be8_lt (x y : List UInt8) (u v : Nat) (hu : u < 18446744073709551616) (hv : v < 18446744073709551616) : be 8 u ++ x < be 8 v ++ y ↔ u < v ∨ u = v ∧ x < y := by
  rw [be_lt, Nat.mod_eq_of_lt (a := u) (by omega), Nat.mod_eq_of_lt (a := v) (by omega)]
theorem be8_lt' (u v : Nat) (hu : u < 18446744073709551616) (hv : v < 18446744073709551616) : be 8 u < be 8 v ↔ u < v := by
  have h := be8_lt [] [] u v hu hv
  rw [List.append_nil, List.append_nil] at h
  rw [h]
  exact ⟨fun h => h.elim id fun h => absurd h.2 (lt_irr _), .inl⟩
end Go.Proofs.YtdigpaniganndaaDoor.Pure
end

section
set_option linter.unusedSimpArgs false
set_option linter.unusedVariables false
namespace Go.Proofs.YtdigpaniganndaaDoor.Pure
open Go.RowKit Go.Proofs.YtdigpaniganndaaDoor.PAll Go.Proofs.YtdigpaniganndaaDoorW.PrintWords Go.Proofs.YtdigpaniganndaaDoorW.PrintMore Go.Proofs.YtdigpaniganndaaDoor.Pb

theorem last_split : ∀ l : List UInt8, l ≠ [] → ∃ p c, l = p ++ [c]
  | [], h => absurd rfl h
  | l, h => ⟨l.dropLast, l.getLast h, (List.dropLast_concat_getLast h).symm⟩
theorem num1 (d : UInt8) : strOfNums [((d.toNat : Nat) : Int)] = ba [d] := by
  apply ls_inj
  simp [strOfNums, ls, ba]
/-- What Next answers: nothing, where all bytes are 255; else the last other byte's next one. -/
theorem Next_ev : ∀ (n : Nat) (s : ByteArray), s.size = n → s.size ≤ 1000000 →
    ((∀ c ∈ ls s, c = 255) ∧ Ev (fun k => okey_Next.f k s) ((⟨#[]⟩ : ByteArray), false)) ∨
    ∃ p c q, ls s = p ++ c :: q ∧ c ≠ 255 ∧ (∀ d ∈ q, d = 255) ∧ Ev (fun k => okey_Next.f k s) (ba (p ++ [c + 1]), true)
  | 0, s, hn, hs => by
    have h : ls s = [] := List.length_eq_zero_iff.1 (by rw [ls_length]; exact hn)
    exact .inl ⟨by rw [h]; simp, Ev.step (fun k => if_pos (by rw [toList_ls]; exact h)) (Ev.now _)⟩
  | n + 1, s, hn, hs => by
    have hne : ls s ≠ [] := fun h => by
      have h2 : (ls s).length = 0 := by rw [h]; rfl
      rw [ls_length] at h2
      omega
    obtain ⟨p, c, hp⟩ := last_split (ls s) hne
    have hl : p.length = n := by have := congrArg List.length hp; rw [ls_length] at this; simp at this; omega
    have e1 : wrap64 ((s.size : Int) - 1) = (n : Int) := by rw [wrap64_id (by omega) (by omega)]; omega
    have hb : bt s (n : Int) = (c.toNat : Int) := by rw [bt_ls, hp, Int.toNat_natCast, List.getD_eq_getElem?_getD, List.getElem?_append_right (by omega), hl]; simp
    have hx : ls (s.extract 0 n) = p := by rw [ls_extract, hp, List.take_append_of_le_length (by omega), List.take_of_length_le (by omega)]; rfl
    have hempty : ¬ s.toList = [] := by rw [toList_ls]; exact hne
    by_cases c255 : c = 255
    · have hb2 : bt s (n : Int) = 255 := by rw [hb, c255]; rfl
      have st : ∀ {r}, Ev (fun k => okey_Next.f k (s.extract 0 n)) r → Ev (fun k => okey_Next.f k s) r := fun h =>
        Ev.step (fun k => (if_neg hempty).trans ((if_pos (by rw [e1]; omega)).trans ((if_pos (by rw [e1]; omega)).trans ((if_pos (by rw [e1]; exact hb2)).trans (if_pos (by rw [e1]; omega)))))) (by rw [e1, Int.toNat_natCast]; exact h)
      rcases Next_ev n (s.extract 0 n) (by rw [← ls_length, hx, hl]) (by rw [← ls_length, hx, hl]; omega) with ⟨h1, h2⟩ | ⟨p', c', q, h1, h2, h3, h4⟩
      · refine .inl ⟨fun d hd => ?_, st h2⟩
        rw [hx] at h1
        rw [hp] at hd
        rcases List.mem_append.1 hd with hd | hd
        · exact h1 d hd
        · rw [List.mem_singleton.1 hd, c255]
      · rw [hx] at h1
        refine .inr ⟨p', c', q ++ [255], by rw [hp, h1, c255]; simp, h2, fun d hd => ?_, st h4⟩
        rcases List.mem_append.1 hd with hd | hd
        · exact h3 d hd
        · exact List.mem_singleton.1 hd
    · have hne2 : ¬ bt s (n : Int) = 255 := by
        rw [hb]
        intro h
        exact c255 (UInt8.toNat_inj.1 (by rw [show (255 : UInt8).toNat = 255 from rfl]; omega))
      have hcl := c.toNat_lt
      have hne3 : c.toNat ≠ 255 := fun h => c255 (UInt8.toNat_inj.1 (by rw [h]; rfl))
      have hc1 : (c + 1).toNat = c.toNat + 1 := by rw [UInt8.toNat_add]; show (c.toNat + 1) % 256 = _; omega
      have e2 : (bt s (n : Int) + 1) % 256 = (((c + 1).toNat : Nat) : Int) := by rw [hb, hc1]; omega
      have e3 : strOfNums [(((c + 1).toNat : Nat) : Int)] = ba [c + 1] := num1 _
      refine .inr ⟨p, c, [], hp, c255, by simp, ?_⟩
      refine Ev.step (fun k => (if_neg hempty).trans ((if_pos (by rw [e1]; omega)).trans ((if_pos (by rw [e1]; omega)).trans ((if_neg (by rw [e1]; exact hne2)).trans (if_pos (by rw [e1]; omega)))))) ?_
      rw [e1, e2, Int.toNat_natCast]
      show Ev (fun _ => if (s.extract 0 n).size + (strOfNums [(((c + 1).toNat : Nat) : Int)]).size ≤ 9223372036854775807 then some (s.extract 0 n ++ strOfNums [(((c + 1).toNat : Nat) : Int)], true) else none) _
      rw [e3]
      refine Ev.iteT (by rw [← ls_length, hx, size_ba, hl]; simp; omega) ?_
      rw [show s.extract 0 n ++ ba [c + 1] = ba (p ++ [c + 1]) from ls_inj (by simp [hx])]
      exact Ev.now _
theorem up_lt (c : UInt8) (h : c ≠ 255) : c < c + 1 ∧ ∀ d, d < c + 1 → d < c ∨ d = c := by
  have hcl := c.toNat_lt
  have hne3 : c.toNat ≠ 255 := fun h2 => h (UInt8.toNat_inj.1 (by rw [h2]; rfl))
  have hc1 : (c + 1).toNat = c.toNat + 1 := by rw [UInt8.toNat_add]; show (c.toNat + 1) % 256 = _; omega
  refine ⟨UInt8.lt_iff_toNat_lt.2 (by omega), fun d hd => ?_⟩
  have := UInt8.lt_iff_toNat_lt.1 hd
  rcases Nat.lt_or_ge d.toNat c.toNat with h | h
  · exact .inl (UInt8.lt_iff_toNat_lt.2 h)
  · exact .inr (UInt8.toNat_inj.1 (by omega))
theorem lt_asym : ∀ {a b : List UInt8}, a < b → ¬ b < a
  | [], [], h, _ => lt_irr _ h
  | [], _ :: _, _, h => not_lt_nil _ h
  | _ :: _, [], h, _ => not_lt_nil _ h
  | c :: a, d :: b, h, h2 => by
    rcases lt_cons.1 h with h3 | ⟨e3, h3⟩
    · rcases lt_cons.1 h2 with h4 | ⟨e4, h4⟩
      · exact u8_asym h3 h4
      · rw [e4] at h3
        exact u8_irr _ h3
    · rcases lt_cons.1 h2 with h4 | ⟨_, h4⟩
      · rw [e3] at h4
        exact u8_irr _ h4
      · exact lt_asym h3 h4
end Go.Proofs.YtdigpaniganndaaDoor.Pure
end

section
set_option linter.unusedSimpArgs false
set_option linter.unusedVariables false
namespace Go.Proofs.YtdigpaniganndaaDoor.Pure
open Go.RowKit Go.Proofs.YtdigpaniganndaaDoor.PAll Go.Proofs.YtdigpaniganndaaDoorW.PrintWords Go.Proofs.YtdigpaniganndaaDoorW.PrintMore Go.Proofs.YtdigpaniganndaaDoor.Pb

/-- The key of a part. -/
def kk (l : List UInt8) (p : Nat) : List UInt8 := 111 :: (tx l ++ [UInt8.ofNat p])
theorem kk_length (l : List UInt8) (p : Nat) : (kk l p).length = (tx l).length + 2 := by simp [kk]
theorem tx_le (l : List UInt8) : (tx l).length ≤ 2 * l.length + 2 := by
  have := tx_length l
  have h2 : l.count 0 ≤ l.length := List.count_le_length
  omega
theorem Key_eq (a : ByteArray) (hs : a.size ≤ 1000000) (p : Nat) (hp : p < 256) : layout_Key.f a (p : Int) = some (ba (kk (ls a) p)) := by
  have hl := tx_le (ls a)
  rw [ls_length] at hl
  have hn : strOfNums [(p : Int) % 256] = ba [UInt8.ofNat p] := by
    have e : (p : Int) % 256 = (((UInt8.ofNat p).toNat : Nat) : Int) := by
      rw [UInt8.toNat_ofNat']; omega
    rw [e]
    exact num1 _
  unfold layout_Key.f
  rw [Text_eq a (by omega)]
  show (if 1 + (ba (tx (ls a))).size ≤ 9223372036854775807 then (if ((⟨#[111]⟩ : ByteArray) ++ ba (tx (ls a))).size + (strOfNums [(p : Int) % 256]).size ≤ 9223372036854775807 then some (((⟨#[111]⟩ : ByteArray) ++ ba (tx (ls a))) ++ strOfNums [(p : Int) % 256]) else none) else none) = _
  rw [hn, if_pos (by rw [size_ba]; omega), if_pos (by rw [ByteArray.size_append, size_ba, size_ba, show (⟨#[111]⟩ : ByteArray).size = 1 from rfl]; simp; omega)]
  exact congrArg some (ls_inj (by simp [kk, ls_mk]))
theorem ElemPrefix_eq (a e : ByteArray) (hs : a.size ≤ 1000000) (he : e.size ≤ 1000000) : layout_ElemPrefix.f a e = some (ba (kk (ls a) 3 ++ tx (ls e))) := by
  have hl := tx_le (ls a)
  have hl2 := tx_le (ls e)
  rw [ls_length] at hl hl2
  unfold layout_ElemPrefix.f
  rw [show layout_Key.f a 3 = _ from Key_eq a hs 3 (by omega), Text_eq e (by omega)]
  show (if (ba (kk (ls a) 3)).size + (ba (tx (ls e))).size ≤ 9223372036854775807 then some (ba (kk (ls a) 3) ++ ba (tx (ls e))) else none) = _
  rw [if_pos (by rw [size_ba, size_ba, kk_length]; omega)]
  exact congrArg some (ls_inj (by simp))
/-- A dot's bytes. -/
def db (a b c d n : Int) : List UInt8 := [UInt8.ofNat a.toNat, UInt8.ofNat b.toNat, UInt8.ofNat c.toNat, UInt8.ofNat d.toNat] ++ be 8 n.toNat
theorem db_length (a b c d n : Int) : (db a b c d n).length = 12 := by simp [db]
/-- A dot's words. -/
structure Dt (a b c d n : Int) : Prop where
  a : 0 ≤ a ∧ a < 256
  b : 0 ≤ b ∧ b < 256
  c : 0 ≤ c ∧ c < 256
  d : 0 ≤ d ∧ d < 256
  n : 0 ≤ n ∧ n < 18446744073709551616
theorem ls_four (a b c d : Int) : ls (strOfNums [a, b, c, d]) = [UInt8.ofNat a.toNat, UInt8.ofNat b.toNat, UInt8.ofNat c.toNat, UInt8.ofNat d.toNat] := by simp [ls, strOfNums]
theorem Bytes_ev {a b c d n : Int} (h : Dt a b c d n) : Ev (fun k => dot_Bytes.f k a b c d n) (ba (db a b c d n)) := by
  unfold dot_Bytes.f
  refine Ev.iteT ⟨h.a, h.b, h.c, h.d⟩ ?_
  have hf := Fix_ev n.toNat 8 (by omega) (by omega) (by have := h.n; omega)
  rw [Int.toNat_of_nonneg h.n.1] at hf
  refine Ev.bind hf (Ev.iteT (by rw [size_ba]; simp) ?_)
  rw [show strOfNums [a, b, c, d] ++ (ba (be 8 n.toNat), (0 : Int)).1 = ba (db a b c d n) from ls_inj (by simp [ls_four, db])]
  exact Ev.now _
theorem ElemKey_ev (s e : ByteArray) (hs : s.size ≤ 1000000) (he : e.size ≤ 1000000) {a b c d n : Int} (h : Dt a b c d n) : Ev (fun k => layout_ElemKey.f k s e a b c d n) (ba (kk (ls s) 3 ++ tx (ls e) ++ db a b c d n)) := by
  have hl := tx_le (ls s)
  have hl2 := tx_le (ls e)
  rw [ls_length] at hl hl2
  unfold layout_ElemKey.f
  refine Ev.bindC (ElemPrefix_eq s e hs he) (Ev.bind (Bytes_ev h) (Ev.iteT (by rw [size_ba, size_ba, List.length_append, kk_length, db_length]; omega) ?_))
  rw [show ba (kk (ls s) 3 ++ tx (ls e)) ++ ba (db a b c d n) = ba (kk (ls s) 3 ++ tx (ls e) ++ db a b c d n) from ls_inj (by simp)]
  exact Ev.now _
theorem last_eq {x y : List UInt8} {c d : UInt8} (h : x ++ [c] = y ++ [d]) : x = y ∧ c = d := by
  have := List.append_inj' h rfl
  exact ⟨this.1, by simpa using this.2⟩
theorem Ends_ev (s : ByteArray) (hs : s.size ≤ 100000) : Ev (fun k => layout_Ends.f k s) (ba (kk (ls s) 3), ba (kk (ls s) 4)) := by
  have hl := tx_le (ls s)
  rw [ls_length] at hl
  unfold layout_Ends.f
  refine Ev.bindC (Key_eq s (by omega) 3 (by omega)) ?_
  rcases Next_ev _ (ba (kk (ls s) 3)) rfl (by rw [size_ba, kk_length]; omega) with ⟨h1, _⟩ | ⟨p, c, q, h1, h2, h3, h4⟩
  · exact absurd (h1 111 (by rw [ls_ba]; simp [kk])) (by decide)
  · rw [ls_ba] at h1
    have hq : q = [] := by
      rcases List.eq_nil_or_concat q with h | ⟨q', d, h⟩
      · exact h
      · exfalso
        rw [h] at h1 h3
        have h5 : (111 :: tx (ls s)) ++ [UInt8.ofNat 3] = (p ++ c :: q') ++ [d] := by rw [show (111 :: tx (ls s)) ++ [UInt8.ofNat 3] = kk (ls s) 3 from rfl, h1]; simp
        have h6 := (last_eq h5).2
        have h7 := h3 d (by simp)
        rw [h7] at h6
        exact absurd h6 (by decide)
    subst hq
    obtain ⟨rfl, h6⟩ := last_eq (show (111 :: tx (ls s)) ++ [UInt8.ofNat 3] = p ++ [c] from h1)
    subst h6
    refine Ev.bind h4 ?_
    exact Ev.now _
theorem kk_lt (a b x y : List UInt8) (p q : Nat) : kk a p ++ x < kk b q ++ y ↔ a < b ∨ a = b ∧ (UInt8.ofNat p :: x) < (UInt8.ofNat q :: y) := by
  have h := tx_lt (UInt8.ofNat p :: x) (UInt8.ofNat q :: y) a b
  rw [← h]
  have e : ∀ l r (z : List UInt8), kk l r ++ z = [111] ++ (tx l ++ (UInt8.ofNat r :: z)) := fun l r z => by simp [kk]
  rw [e, e]
  exact app_lt [111] _ _
end Go.Proofs.YtdigpaniganndaaDoor.Pure
end

section
set_option linter.unusedSimpArgs false
set_option linter.unusedVariables false
namespace Go.Proofs.YtdigpaniganndaaDoor.Pure
open Go.RowKit Go.Proofs.YtdigpaniganndaaDoor.PAll Go.Proofs.YtdigpaniganndaaDoorW.PrintWords Go.Proofs.YtdigpaniganndaaDoorW.PrintMore Go.Proofs.YtdigpaniganndaaDoor.Pb

theorem text_g (r : List UInt8) : ∀ a acc : List UInt8, okey_text.g acc (tx a ++ r) = (ba (acc ++ a), ba r, 0)
  | [], acc => by simp [tx_nil, okey_text.g]
  | c :: a, acc => by
    by_cases c0 : c = 0
    · subst c0
      rw [tx_zero, List.cons_append, List.cons_append, okey_text.g_zero, text_g r a]
      simp
    · rw [tx_cons c a c0, List.cons_append, okey_text.g_step _ _ _ c0, text_g r a]
      simp
theorem unL8 (v : Nat) (hv : v < 18446744073709551616) (r : List UInt8) : unL 0 ((((be 8 v ++ r)).drop 0).take 8) = v := by
  rw [List.drop_zero, List.take_append_of_le_length (by simp), List.take_of_length_le (by simp), unL_be, Nat.zero_mul, Nat.zero_add]
  exact Nat.mod_eq_of_lt (by omega)
theorem one_pos {α : Type} (x : α) : (0 : Int) < (([x] : List α).length : Int) := by simp
theorem w01 : wrap64 (0 + 1) = 1 := by rw [wrap64_id (by omega) (by omega)]; rfl
theorem text_eq (a r : List UInt8) (h : a.length ≤ 1000000) (hr : r.length ≤ 1000000) : okey_text.f (ba (tx a ++ r)) = some (ba a, ba r, 0) := by
  have := tx_le a
  unfold okey_text.f
  rw [if_pos (by rw [size_ba, List.length_append]; omega), ls_ba, text_g, List.nil_append]
theorem get1_ev (a r : List UInt8) (h : a.length ≤ 1000000) (hr : r.length ≤ 1000000) : Ev (fun k => okey_get.f k (ba (tx a ++ r)) 1) (1, ba a, 0, 0, ba r, 0) := by
  unfold okey_get.f
  exact Ev.iteT rfl (Ev.bindC (text_eq a r h hr) (Ev.now _))
theorem Get1_ev (a r : List UInt8) (h : a.length ≤ 1000000) (hr : r.length ≤ 1000000) :
    Ev (fun k => okey_Get.f k (ba (tx a ++ r)) [1]) ([(⟨1, ba a, 0, 0⟩ : S51)], ba r, 0) := by
  unfold okey_Get.f
  refine Ev.step (fun k => (if_pos (by decide)).trans ((if_pos (by decide)).trans (if_pos (by decide)))) ?_
  refine Ev.bindC (show okey_isKind.f (rd [1] 0) = some true from rfl) (Ev.iteT rfl ?_)
  refine Ev.step (fun k => if_neg (by rw [w01]; decide)) ?_
  refine Ev.step (fun k => (if_pos (by decide)).trans ((if_pos (by decide)).trans (if_pos (by decide)))) ?_
  refine Ev.bind (show Ev (fun k => okey_get.f k (ba (tx a ++ r)) (rd [1] 0)) _ from get1_ev a r h hr) (Ev.iteT rfl (Ev.iteT (by decide) ?_))
  refine Ev.step (fun k => if_neg (by rw [w01]; decide)) ?_
  exact Ev.bindC (show strings_Clone.f (ba r) = some (ba r) from if_pos (by rw [size_ba]; omega)) (Ev.now _)
theorem Cut_eq (l : List UInt8) (h : l.length ≤ 1000000) : strings_CutPrefix.f (ba (111 :: l)) ⟨#[111]⟩ = some (ba l, true) := by
  have h1 : ((ba (111 :: l)).size : Int) ≥ ((⟨#[111]⟩ : ByteArray).size : Int) := by rw [size_ba, List.length_cons]; show _ ≥ ((1 : Nat) : Int); omega
  have hp : stringslite_HasPrefix.f (ba (111 :: l)) ⟨#[111]⟩ = some true := by
    unfold stringslite_HasPrefix.f
    rw [if_pos h1, if_pos (by decide), if_pos h1]
    refine congrArg some ?_
    rw [beq_iff_eq, toList_ls, toList_ls, ls_extract, ls_ba]
    rfl
  unfold strings_CutPrefix.f stringslite_CutPrefix.f
  rw [hp]
  simp only [Option.bind_some]
  rw [if_pos trivial, if_pos (by decide), if_pos h1]
  simp only [Option.bind_some]
  refine congrArg some (Prod.ext ?_ rfl)
  apply ls_inj
  rw [ls_extract, ls_ba, List.take_of_length_le (by rw [size_ba]; exact Nat.le_refl _)]
  show (111 :: l).drop 1 = ls (ba l)
  rw [ls_ba]
  rfl
/-- Is it a name, an element? -/
theorem Name_eq (a : ByteArray) : ∃ t, layout_ValidName.f a = some t ∧ (t = true ↔ ls a ≠ [] ∧ a.size ≤ 40) := by
  unfold layout_ValidName.f
  by_cases c : a.toList = []
  · exact ⟨false, if_pos c, by rw [toList_ls] at c; simp [c]⟩
  · refine ⟨_, if_neg c, ?_⟩
    rw [toList_ls] at c
    rw [decide_eq_true_iff]
    exact ⟨fun h => ⟨c, by omega⟩, fun h => by omega⟩
theorem Elem_eq (a : ByteArray) : ∃ t, layout_ValidElem.f a = some t ∧ (t = true ↔ ls a ≠ [] ∧ a.size ≤ 60) := by
  unfold layout_ValidElem.f
  by_cases c : a.toList = []
  · exact ⟨false, if_pos c, by rw [toList_ls] at c; simp [c]⟩
  · refine ⟨_, if_neg c, ?_⟩
    rw [toList_ls] at c
    rw [decide_eq_true_iff]
    exact ⟨fun h => ⟨c, by omega⟩, fun h => by omega⟩
theorem Name_true (a : ByteArray) (h : ls a ≠ []) (hs : a.size ≤ 40) : layout_ValidName.f a = some true := by
  obtain ⟨t, h1, h2⟩ := Name_eq a
  rw [h1, h2.2 ⟨h, hs⟩]
theorem Elem_true (a : ByteArray) (h : ls a ≠ []) (hs : a.size ≤ 60) : layout_ValidElem.f a = some true := by
  obtain ⟨t, h1, h2⟩ := Elem_eq a
  rw [h1, h2.2 ⟨h, hs⟩]
theorem dotParse_ev {a b c d n : Int} (h : Dt a b c d n) (hn : n ≠ 0) : Ev (fun k => dot_Parse.f k (ba (db a b c d n))) (a, b, c, d, n, 0) := by
  unfold dot_Parse.f
  refine Ev.iteT (by rw [size_ba, db_length]) ?_
  have hu := Unfix_ev (ba (db a b c d n)) 4 8 (by omega) (by omega) (by rw [size_ba, db_length]; omega) (by rw [size_ba, db_length]; omega)
  have hd : ((ls (ba (db a b c d n))).drop 4).take 8 = be 8 n.toNat := by
    rw [ls_ba]
    show (be 8 n.toNat).take 8 = _
    exact List.take_of_length_le (by simp)
  have hu8 : unL 0 (be 8 n.toNat) = n.toNat := by
    rw [unL_be, Nat.zero_mul, Nat.zero_add]
    exact Nat.mod_eq_of_lt (by have := h.n; omega)
  rw [hd, hu8, Int.toNat_of_nonneg h.n.1] at hu
  refine Ev.bind hu (Ev.iteT (by have := h.n; show n ≥ 1; omega) ?_)
  have e : ∀ (i : Nat) (x : Int), (db a b c d n).getD i 0 = UInt8.ofNat x.toNat → 0 ≤ x ∧ x < 256 → bt (ba (db a b c d n)) (i : Int) = x := fun i x hx hb => by
    rw [bt_ls, ls_ba, Int.toNat_natCast, hx, UInt8.toNat_ofNat']
    omega
  rw [show bt (ba (db a b c d n)) 0 = a from e 0 a rfl h.a, show bt (ba (db a b c d n)) 1 = b from e 1 b rfl h.b, show bt (ba (db a b c d n)) 2 = c from e 2 c rfl h.c, show bt (ba (db a b c d n)) 3 = d from e 3 d rfl h.d]
  exact Ev.now _
theorem rd0 (x : S51) : rd_T51 [x] 0 = x := rfl
theorem elem_ev (s e : ByteArray) (he : ls e ≠ []) (hes : e.size ≤ 60) {a b c d n : Int} (h : Dt a b c d n) (hn : n ≠ 0) :
    Ev (fun k => layout_elem.f k s 3 ⟨#[]⟩ 0 0 0 0 0 (ba (tx (ls e) ++ db a b c d n))) (s, 3, e, a, b, c, d, n, 0) := by
  unfold layout_elem.f
  have hl : (ls e).length ≤ 60 := by rw [ls_length]; exact hes
  refine Ev.bind (Get1_ev (ls e) (db a b c d n) (by omega) (by rw [db_length]; omega)) (Ev.iteT rfl (Ev.iteT (one_pos _) ?_))
  rw [rd0, ba_ls]
  refine Ev.bindC (Elem_true e he hes) ?_
  refine Ev.step (fun k => (layout_elem.j0.eq_2 _ _ _ _ _ _ _ _ _ _ _ _).trans (if_neg (by simp))) ?_
  refine Ev.bind (dotParse_ev h hn) (Ev.iteT rfl (Ev.iteT (one_pos _) ?_))
  rw [rd0]
  exact Ev.now _
theorem Parse_ev (s : ByteArray) (hs : ls s ≠ []) (hss : s.size ≤ 40) (rest : List UInt8) (hr : rest ≠ []) (hrl : rest.length ≤ 10000) {v} (h : Ev (fun k => layout_Parse.j0 k [(⟨1, s, 0, 0⟩ : S51)] (ba rest) false) v) : Ev (fun k => layout_Parse.f k (ba (111 :: (tx (ls s) ++ rest)))) v := by
  have hl : (ls s).length ≤ 40 := by rw [ls_length]; exact hss
  have ht := tx_le (ls s)
  unfold layout_Parse.f
  refine Ev.bindC (Cut_eq _ (by rw [List.length_append]; omega)) (Ev.bind (Get1_ev (ls s) rest (by omega) (by omega)) (Ev.iteT rfl (Ev.iteT rfl (Ev.iteT (one_pos _) ?_))))
  rw [rd0, ba_ls]
  refine Ev.bindC (Name_true s hs hss) (Ev.iteT rfl ?_)
  rw [show ((ba rest).toList == ([] : List UInt8)) = false by rw [beq_eq_false_iff_ne, toList_ls, ls_ba]; exact hr]
  exact h
theorem bt0 (c : UInt8) (l : List UInt8) : bt (ba (c :: l)) 0 = (c.toNat : Int) := by
  rw [bt_ls, ls_ba]
  rfl
theorem ParseElem_ev (s e : ByteArray) (hs : ls s ≠ []) (hss : s.size ≤ 40) (he : ls e ≠ []) (hes : e.size ≤ 60) {a b c d n : Int} (h : Dt a b c d n) (hn : n ≠ 0) :
    Ev (fun k => layout_Parse.f k (ba (kk (ls s) 3 ++ tx (ls e) ++ db a b c d n))) (s, 3, e, a, b, c, d, n, 0) := by
  have hl : (ls e).length ≤ 60 := by rw [ls_length]; exact hes
  have ht := tx_le (ls e)
  rw [show kk (ls s) 3 ++ tx (ls e) ++ db a b c d n = 111 :: (tx (ls s) ++ (3 :: (tx (ls e) ++ db a b c d n))) by simp [kk]]
  refine Parse_ev s hs hss _ (by simp) (by rw [List.length_cons, List.length_append, db_length]; omega) ?_
  have hz : (ba (3 :: (tx (ls e) ++ db a b c d n))).size = (tx (ls e)).length + 13 := by rw [size_ba, List.length_cons, List.length_append, db_length]
  have hb : wrap64 (bt (ba (3 :: (tx (ls e) ++ db a b c d n))) 0) = 3 := by rw [bt0, wrap64_id (by decide) (by decide)]; rfl
  refine Ev.step (fun k => (layout_Parse.j0.eq_2 _ _ _ _).trans ((if_neg (by simp)).trans ((if_pos (one_pos _)).trans ((if_pos (by rw [hz]; omega)).trans ((if_pos hb).trans (if_pos (by rw [hz]; omega))))))) ?_
  rw [rd0, hb]
  have hx : (ba (3 :: (tx (ls e) ++ db a b c d n))).extract 1 (ba (3 :: (tx (ls e) ++ db a b c d n))).size = ba (tx (ls e) ++ db a b c d n) := by
    apply ls_inj
    rw [ls_extract, ls_ba, ls_ba, List.take_of_length_le (by rw [size_ba]; exact Nat.le_refl _)]
    rfl
  rw [hx]
  exact Ev.bind (elem_ev s e he hes h hn) (Ev.now _)
theorem ParsePart_ev (s : ByteArray) (hs : ls s ≠ []) (hss : s.size ≤ 40) (p : Nat) (hp : p < 3) :
    Ev (fun k => layout_Parse.f k (ba (kk (ls s) p))) (s, (p : Int), ⟨#[]⟩, 0, 0, 0, 0, 0, 0) := by
  rw [show kk (ls s) p = 111 :: (tx (ls s) ++ [UInt8.ofNat p]) from rfl]
  refine Parse_ev s hs hss _ (by simp) (by simp) ?_
  have hb : wrap64 (bt (ba [UInt8.ofNat p]) 0) = (p : Int) := by
    rw [bt0, UInt8.toNat_ofNat', wrap64_id (by omega) (by omega)]
    omega
  have hz : (ba [UInt8.ofNat p]).size = 1 := by rw [size_ba]; rfl
  refine Ev.step (fun k => (layout_Parse.j0.eq_2 _ _ _ _).trans ((if_neg (by simp)).trans ((if_pos (one_pos _)).trans ((if_pos (by rw [hz]; decide)).trans ((if_neg (by rw [hb]; omega)).trans ((if_neg (by rw [hb]; omega)).trans (if_neg (by rw [hz]; decide)))))))) ?_
  rw [rd0, hb]
  exact Ev.now _
end Go.Proofs.YtdigpaniganndaaDoor.Pure
end

section
set_option linter.unusedSimpArgs false
set_option linter.unusedVariables false
namespace Go.Proofs.YtdigpaniganndaaDoor.Pure
open Go.RowKit Go.Proofs.YtdigpaniganndaaDoor.PAll Go.Proofs.YtdigpaniganndaaDoorW.PrintWords Go.Proofs.YtdigpaniganndaaDoorW.PrintMore Go.Proofs.YtdigpaniganndaaDoor.Pb

/-- Bytes as whole numbers. -/
def nn (l : List UInt8) : List Int := l.map fun c => (c.toNat : Int)
theorem nn_length (l : List UInt8) : (nn l).length = l.length := by simp [nn]
theorem nn_snoc (l : List UInt8) (c : UInt8) : nn l ++ [(c.toNat : Int)] = nn (l ++ [c]) := by simp [nn]
theorem str_nn (l : List UInt8) : strOfNums (nn l) = ba l := by
  apply ls_inj
  simp [ls, strOfNums, ba, nn, Function.comp_def]
theorem rkey_l0 (s : ByteArray) (hs : s.size ≤ 1000000) : ∀ (m i : Nat) (acc : List UInt8), i + m = s.size → acc.length ≤ 2 * i → Ev (fun k => cornucopiaref1_Key.l0 k s (nn acc) (i : Int)) (ba (acc ++ tx ((ls s).drop i)))
  | 0, i, acc, hi, ha => by
    refine Ev.step (fun k => if_neg (by omega)) ?_
    rw [List.drop_of_length_le (by rw [ls_length]; omega), tx_nil]
    show Ev (fun _ => if (nn acc).length + ([0, 1] : List Int).length < 140737488355328 then some (strOfNums (nn acc ++ [0, 1])) else none) _
    refine Ev.iteT (by rw [nn_length]; simp; omega) ?_
    rw [show nn acc ++ [0, 1] = nn (acc ++ [0, 1]) by simp [nn], str_nn]
    exact Ev.now _
  | m + 1, i, acc, hi, ha => by
    have e1 : wrap64 ((i : Int) + 1) = ((i + 1 : Nat) : Int) := by rw [wrap64_id (by omega) (by omega)]; omega
    have hb : bt s (i : Int) = (((ls s).getD i 0).toNat : Int) := bt_ls s _
    have hd := drop_cons 0 (ls s) i (by rw [ls_length]; omega)
    rw [hd]
    refine Ev.step (fun k => (if_pos (by omega)).trans ((if_pos (by omega)).trans (if_pos (by rw [nn_length]; omega)))) ?_
    rw [hb, e1]
    show Ev (fun k => if (((ls s).getD i 0).toNat : Int) = 0 then (if (nn acc ++ [(((ls s).getD i 0).toNat : Int)]).length < 140737488355328 then cornucopiaref1_Key.l0 k s ((nn acc ++ [(((ls s).getD i 0).toNat : Int)]) ++ [255]) ((i + 1 : Nat) : Int) else none) else cornucopiaref1_Key.l0 k s (nn acc ++ [(((ls s).getD i 0).toNat : Int)]) ((i + 1 : Nat) : Int)) _
    rw [nn_snoc]
    generalize (ls s).getD i 0 = c
    by_cases c0 : c = 0
    · subst c0
      refine Ev.iteT rfl (Ev.iteT (by rw [nn_length]; simp; omega) ?_)
      rw [show nn (acc ++ [0]) ++ [255] = nn (acc ++ [0, 255]) by simp [nn]]
      have h := rkey_l0 s hs m (i + 1) (acc ++ [0, 255]) (by omega) (by simp; omega)
      rw [tx_zero, show acc ++ 0 :: 255 :: tx ((ls s).drop (i + 1)) = acc ++ [0, 255] ++ tx ((ls s).drop (i + 1)) by simp]
      exact h
    · refine Ev.iteF (fun h => c0 (UInt8.toNat_inj.1 (by rw [show (0 : UInt8).toNat = 0 from rfl]; omega))) ?_
      have h := rkey_l0 s hs m (i + 1) (acc ++ [c]) (by omega) (by simp; omega)
      rw [tx_cons _ _ c0, show acc ++ c :: tx ((ls s).drop (i + 1)) = acc ++ [c] ++ tx ((ls s).drop (i + 1)) by simp]
      exact h
theorem rkey_ev (s : ByteArray) (hs : s.size ≤ 1000000) : Ev (fun k => cornucopiaref1_Key.f k s) (ba (tx (ls s))) := rkey_l0 s hs s.size 0 [] (by omega) (by simp)
theorem Key_int (a : ByteArray) (hs : a.size ≤ 1000000) (p : Int) : layout_Key.f a p = some (ba (kk (ls a) (p % 256).toNat)) := by
  have h := Key_eq a hs (p % 256).toNat (by omega)
  rw [← h]
  unfold layout_Key.f
  rw [show (((p % 256).toNat : Nat) : Int) % 256 = p % 256 by omega]
theorem RKey_ev (a : ByteArray) (hs : a.size ≤ 1000000) (p : Int) : Ev (fun k => cornucopiaref20_Key.f k a p) (ba (kk (ls a) (p % 256).toNat)) := by
  have hl := tx_le (ls a)
  rw [ls_length] at hl
  have hn : strOfNums [p % 256] = ba [UInt8.ofNat (p % 256).toNat] := by
    have e : p % 256 = (((UInt8.ofNat (p % 256).toNat).toNat : Nat) : Int) := by
      rw [UInt8.toNat_ofNat']; omega
    have h2 := num1 (UInt8.ofNat (p % 256).toNat)
    rw [← e] at h2
    exact h2
  unfold cornucopiaref20_Key.f
  refine Ev.bind (rkey_ev a hs) (Ev.iteT (by rw [size_ba]; omega) ?_)
  show Ev (fun _ => if ((⟨#[111]⟩ : ByteArray) ++ ba (tx (ls a))).size + (strOfNums [p % 256]).size ≤ 9223372036854775807 then some (((⟨#[111]⟩ : ByteArray) ++ ba (tx (ls a))) ++ strOfNums [p % 256]) else none) _
  rw [hn]
  refine Ev.iteT (by rw [ByteArray.size_append, size_ba, size_ba, show (⟨#[111]⟩ : ByteArray).size = 1 from rfl]; simp; omega) ?_
  rw [show ((⟨#[111]⟩ : ByteArray) ++ ba (tx (ls a))) ++ ba [UInt8.ofNat (p % 256).toNat] = ba (kk (ls a) (p % 256).toNat) from ls_inj (by simp [kk, ls_mk])]
  exact Ev.now _
theorem RElemPrefix_ev (a e : ByteArray) (hs : a.size ≤ 1000000) (he : e.size ≤ 1000000) : Ev (fun k => cornucopiaref20_ElemPrefix.f k a e) (ba (kk (ls a) 3 ++ tx (ls e))) := by
  have hl := tx_le (ls a)
  have hl2 := tx_le (ls e)
  rw [ls_length] at hl hl2
  unfold cornucopiaref20_ElemPrefix.f
  refine Ev.bind (RKey_ev a hs 3) (Ev.bind (rkey_ev e he) (Ev.iteT (by rw [size_ba, size_ba, kk_length]; omega) ?_))
  rw [show ba (kk (ls a) ((3 : Int) % 256).toNat) ++ ba (tx (ls e)) = ba (kk (ls a) 3 ++ tx (ls e)) from ls_inj (by simp)]
  exact Ev.now _
theorem rnext_ev (l : List UInt8) (c : UInt8) (hc : c ≠ 255) (hl : l.length ≤ 1000000) : Ev (fun k => cornucopiaref1_Next.f k (ba (l ++ [c]))) (ba (l ++ [c + 1]), true) := by
  have hz : (ba (l ++ [c])).size = l.length + 1 := by rw [size_ba]; simp
  have e1 : wrap64 (((ba (l ++ [c])).size : Int) - 1) = (l.length : Int) := by rw [hz, wrap64_id (by omega) (by omega)]; omega
  have hb : bt (ba (l ++ [c])) (l.length : Int) = (c.toNat : Int) := by rw [bt_ls, ls_ba, Int.toNat_natCast, List.getD_eq_getElem?_getD, List.getElem?_append_right (by omega)]; simp
  have hcl := c.toNat_lt
  have hne3 : c.toNat ≠ 255 := fun h => hc (UInt8.toNat_inj.1 (by rw [h]; rfl))
  have hc1 : (c + 1).toNat = c.toNat + 1 := by rw [UInt8.toNat_add]; show (c.toNat + 1) % 256 = _; omega
  have e2 : (bt (ba (l ++ [c])) (l.length : Int) + 1) % 256 = (((c + 1).toNat : Nat) : Int) := by rw [hb, hc1]; omega
  unfold cornucopiaref1_Next.f
  rw [e1]
  refine Ev.step (fun k => (if_pos (by omega)).trans ((if_pos (by omega)).trans ((if_pos (by omega)).trans ((if_neg (by omega)).trans (if_pos (by omega)))))) ?_
  rw [e2, Int.toNat_natCast]
  show Ev (fun _ => if ((ba (l ++ [c])).extract 0 l.length).size + (strOfNums [(((c + 1).toNat : Nat) : Int)]).size ≤ 9223372036854775807 then some ((ba (l ++ [c])).extract 0 l.length ++ strOfNums [(((c + 1).toNat : Nat) : Int)], true) else none) _
  have hx : ls ((ba (l ++ [c])).extract 0 l.length) = l := by rw [ls_extract, ls_ba, List.take_left]; rfl
  rw [num1]
  refine Ev.iteT (by rw [← ls_length, hx, size_ba]; simp; omega) ?_
  rw [show (ba (l ++ [c])).extract 0 l.length ++ ba [c + 1] = ba (l ++ [c + 1]) from ls_inj (by rw [ls_append, hx, ls_ba, ls_ba])]
  exact Ev.now _
theorem REnds_ev (s : ByteArray) (hs : s.size ≤ 100000) : Ev (fun k => cornucopiaref20_Ends.f k s) (ba (kk (ls s) 3), ba (kk (ls s) 4)) := by
  have hl := tx_le (ls s)
  rw [ls_length] at hl
  unfold cornucopiaref20_Ends.f
  refine Ev.bind (RKey_ev s (by omega) 3) (Ev.bind (show Ev (fun k => cornucopiaref1_Next.f k (ba (kk (ls s) 3))) _ from rnext_ev (111 :: tx (ls s)) (UInt8.ofNat 3) (by decide) (by rw [List.length_cons]; omega)) ?_)
  exact Ev.now _
theorem be_snoc : ∀ (m w : Nat), be (m + 1) w = be m (w / 256) ++ [UInt8.ofNat (w % 256)]
  | 0, w => by simp [be, ben]
  | m + 1, w => by
    have h := be_snoc m w
    have e : ∀ n v, be (n + 1) v = UInt8.ofNat (v / 256 ^ n % 256) :: be n v := fun _ _ => rfl
    rw [e (m + 1) w, h, e m (w / 256), Nat.div_div_eq_div_mul, show 256 * 256 ^ m = 256 ^ (m + 1) by rw [Nat.pow_succ, Nat.mul_comm]]
    rfl
/-- The reference's digits, from the end. -/
theorem rfix_l0 (v : Nat) : ∀ (m w : Nat) (xs tail : List Int), w < 256 ^ m → m ≤ 8 → xs.length = m → Ev (fun k => cornucopiaref1_Fix.l0 k (w : Int) (xs ++ tail) ((m : Int) - 1)) (strOfNums (nn (be m w) ++ tail), 0)
  | 0, w, xs, tail, hw, hm, hx => by
    have hw0 : w = 0 := by omega
    subst hw0
    refine Ev.step (fun k => (if_neg (by omega)).trans (if_neg (by omega))) ?_
    rw [List.length_eq_zero_iff.1 hx]
    exact Ev.now _
  | m + 1, w, xs, tail, hw, hm, hx => by
    have hq : w / 256 < 256 ^ m := by rw [Nat.pow_succ] at hw; exact Nat.div_lt_of_lt_mul (by omega)
    have h8 : (256 : Nat) ^ (m + 1) ≤ 256 ^ 8 := Nat.pow_le_pow_right (by omega) (by omega)
    have e1 : wrap64 (((m + 1 : Nat) : Int) - 1 - 1) = (m : Int) - 1 := by rw [wrap64_id (by omega) (by omega)]; omega
    have e2 : IntKind.u64.wrap (Int.tdiv (w : Int) 256) = ((w / 256 : Nat) : Int) := by
      rw [show Int.tdiv (w : Int) 256 = ((w / 256 : Nat) : Int) from rfl, u64_id (by omega) (by omega)]
    have e3 : Int.tmod (w : Int) 256 % 256 = ((w % 256 : Nat) : Int) := by
      rw [show Int.tmod (w : Int) 256 = ((w % 256 : Nat) : Int) from rfl]; omega
    refine Ev.step (fun k => (if_pos (by omega)).trans ((if_pos (by omega)).trans (if_pos (by rw [List.length_append, hx]; omega)))) ?_
    rw [e1, e2, e3, show ((((m + 1 : Nat) : Int) - 1 : Int)).toNat = m by omega]
    obtain ⟨ys, y, rfl⟩ : ∃ ys y, xs = ys ++ [y] := ⟨xs.dropLast, xs.getLast (by intro h; rw [h] at hx; simp at hx), (List.dropLast_concat_getLast _).symm⟩
    have hy : ys.length = m := by simpa using hx
    rw [show (ys ++ [y] ++ tail).set m ((w % 256 : Nat) : Int) = ys ++ (((w % 256 : Nat) : Int) :: tail) by
      rw [List.append_assoc, List.set_append_right _ _ (by omega), hy]; simp]
    have h := rfix_l0 v m (w / 256) ys (((w % 256 : Nat) : Int) :: tail) hq (by omega) hy
    have e4 : nn (be (m + 1) w) = nn (be m (w / 256)) ++ [((w % 256 : Nat) : Int)] := by
      rw [be_snoc]
      simp [nn]
    rw [e4, List.append_assoc]
    exact h
theorem RNum_ev (v : Nat) (hv : v < 18446744073709551616) : Ev (fun k => cornucopiaref1_Num.f k (v : Int)) (ba (be 8 v)) := by
  have hf : Ev (fun k => cornucopiaref1_Fix.f k (v : Int) 8) (ba (be 8 v), 0) := by
    unfold cornucopiaref1_Fix.f
    refine Ev.iteF (by omega) ?_
    rw [show decide ((8 : Int) > 8) = false from rfl]
    refine Ev.step (fun k => (cornucopiaref1_Fix.j0.eq_2 _ _ _ _).trans ((if_neg (by simp)).trans ((if_pos (by omega)).trans (if_pos (by decide))))) ?_
    have h := rfix_l0 v 8 v (List.replicate 8 0) [] (by omega) (by omega) (by simp)
    rw [List.append_nil, List.append_nil, str_nn] at h
    rw [show wrap64 ((8 : Int) - 1) = ((8 : Nat) : Int) - 1 from by rw [wrap64_id (by omega) (by omega)]; rfl]
    exact h
  unfold cornucopiaref1_Num.f cornucopiaref1_fix.f
  exact Ev.bind (Ev.bind hf (Ev.now _)) (Ev.now _)
theorem RBytes_ev {a b c d n : Int} (h : Dt a b c d n) : Ev (fun k => cornucopiaref17_Bytes.f k a b c d n) (ba (db a b c d n)) := by
  have hf := RNum_ev n.toNat (by have := h.n; omega)
  rw [Int.toNat_of_nonneg h.n.1] at hf
  unfold cornucopiaref17_Bytes.f
  refine Ev.someBind (Ev.bind hf (Ev.iteT (by rw [size_ba, ← ls_length, ls_four]; simp) ?_))
  rw [show strOfNums [a, b, c, d] ++ ba (be 8 n.toNat) = ba (db a b c d n) from ls_inj (by simp [ls_four, db])]
  exact Ev.now _
theorem RElemKey_ev (s e : ByteArray) (hs : s.size ≤ 1000000) (he : e.size ≤ 1000000) {a b c d n : Int} (h : Dt a b c d n) : Ev (fun k => cornucopiaref20_ElemKey.f k s e a b c d n) (ba (kk (ls s) 3 ++ tx (ls e) ++ db a b c d n)) := by
  have hl := tx_le (ls s)
  have hl2 := tx_le (ls e)
  rw [ls_length] at hl hl2
  unfold cornucopiaref20_ElemKey.f
  refine Ev.bind (RElemPrefix_ev s e hs he) (Ev.bind (RBytes_ev h) (Ev.iteT (by rw [size_ba, size_ba, List.length_append, kk_length, db_length]; omega) ?_))
  rw [show ba (kk (ls s) 3 ++ tx (ls e)) ++ ba (db a b c d n) = ba (kk (ls s) 3 ++ tx (ls e) ++ db a b c d n) from ls_inj (by simp)]
  exact Ev.now _
end Go.Proofs.YtdigpaniganndaaDoor.Pure
end

section
set_option linter.unusedSimpArgs false
set_option linter.unusedVariables false
namespace Go.Proofs.YtdigpaniganndaaDoor.Pure
open Go.RowKit Go.Proofs.YtdigpaniganndaaDoor.PAll Go.Proofs.YtdigpaniganndaaDoorW.PrintWords Go.Proofs.YtdigpaniganndaaDoorW.PrintMore Go.Proofs.YtdigpaniganndaaDoor.Pb

theorem alive_ev : Ev (fun k => cornucopialaw21_alive.f k) true := Ev.of (fun k => cornucopialaw21_alive.mono k) (k := 300) (by decide +kernel)
theorem wf8 {n : Int} (h : (Lit.int .u8 n).wf = true) : 0 ≤ n ∧ n < 256 := by
  simp only [Lit.wf, IntKind.min, IntKind.max, IntKind.signed, IntKind.bits, Bool.and_eq_true, decide_eq_true_eq] at h
  simp at h
  omega
theorem wf64 {n : Int} (h : (Lit.int .u64 n).wf = true) : 0 ≤ n ∧ n < 18446744073709551616 := by
  simp only [Lit.wf, IntKind.min, IntKind.max, IntKind.signed, IntKind.bits, Bool.and_eq_true, decide_eq_true_eq] at h
  simp at h
  omega
theorem dt {a b c d n : Int} (h : ((Lit.int .u8 a).wf = true ∧ (Lit.int .u8 b).wf = true ∧ (Lit.int .u8 c).wf = true ∧ (Lit.int .u8 d).wf = true) ∧ (Lit.int .u64 n).wf = true) : Dt a b c d n :=
  ⟨wf8 h.1.1, wf8 h.1.2.1, wf8 h.1.2.2.1, wf8 h.1.2.2.2, wf64 h.2⟩
end Go.Proofs.YtdigpaniganndaaDoor.Pure
end

section
set_option linter.unusedSimpArgs false
set_option linter.unusedVariables false
namespace Go.Proofs.YtdigpaniganndaaDoor.Pure
open Go.RowKit Go.Proofs.YtdigpaniganndaaDoor.PAll Go.Proofs.YtdigpaniganndaaDoorW.PrintWords Go.Proofs.YtdigpaniganndaaDoorW.PrintMore Go.Proofs.YtdigpaniganndaaDoor.Pb

theorem g_size : ∀ (n : Nat) (l acc : List UInt8), l.length ≤ n → (okey_text.g acc l).2.1.size ≤ l.length
  | _, [], acc, _ => by rw [okey_text.g]; exact Nat.zero_le _
  | 0, c :: l, acc, h => by simp at h
  | n + 1, c :: l, acc, h => by
    by_cases c0 : c = 0
    · subst c0
      cases l with
      | nil => rw [okey_text.g]; exact Nat.zero_le _
      | cons d l =>
        have h2 : l.length ≤ n := by simp at h; omega
        simp only [okey_text.g, if_true]
        split
        · rw [size_ba]; simp only [List.length_cons]; omega
        · split
          · have := g_size n l (acc ++ [0]) h2
            simp only [List.length_cons]; omega
          · exact Nat.zero_le _
    · rw [okey_text.g_step _ _ _ c0]
      have := g_size n l (acc ++ [c]) (by simp at h; omega)
      simp only [List.length_cons]; omega
theorem Get_gen (b : ByteArray) (hb : b.size ≤ 1000000) {a r : ByteArray} {e : Int} (hg : okey_text.g [] (ls b) = (a, r, e)) :
    Ev (fun k => okey_Get.f k b [1]) (if e = 0 then ([(⟨1, a, 0, 0⟩ : S51)], r, 0) else ([], ⟨#[]⟩, e)) := by
  have hr : r.size ≤ 1000000 := by
    have := g_size _ (ls b) [] (Nat.le_refl _)
    rw [hg, ls_length] at this
    exact Nat.le_trans this hb
  have ht : okey_text.f b = some (a, r, e) := by
    unfold okey_text.f
    rw [if_pos (by omega), hg]
  have h1 : Ev (fun k => okey_get.f k b 1) (1, a, 0, 0, r, e) := by
    unfold okey_get.f
    exact Ev.iteT rfl (Ev.bindC ht (Ev.now _))
  unfold okey_Get.f
  refine Ev.step (fun k => (if_pos (by decide)).trans ((if_pos (by decide)).trans (if_pos (by decide)))) ?_
  refine Ev.bindC (show okey_isKind.f (rd [1] 0) = some true from rfl) (Ev.iteT rfl ?_)
  refine Ev.step (fun k => if_neg (by rw [w01]; decide)) ?_
  refine Ev.step (fun k => (if_pos (by decide)).trans ((if_pos (by decide)).trans (if_pos (by decide)))) ?_
  refine Ev.bind (show Ev (fun k => okey_get.f k b (rd [1] 0)) _ from h1) ?_
  by_cases he : e = 0
  · rw [if_pos he]
    refine Ev.iteT he (Ev.iteT (by decide) ?_)
    refine Ev.step (fun k => if_neg (by rw [w01]; decide)) ?_
    exact Ev.bindC (show strings_Clone.f r = some r from if_pos (by omega)) (Ev.now _)
  · rw [if_neg he]
    exact Ev.iteF he (Ev.now _)
theorem rread_l0 (b : ByteArray) (hb : b.size ≤ 1000000) : ∀ (m i : Nat) (acc : List UInt8), b.size ≤ i + m → acc.length ≤ i → Ev (fun k => cornucopiaref1_readKey.l0 k b (nn acc) (i : Int)) (okey_text.g acc ((ls b).drop i))
  | 0, i, acc, hi, ha => by
    rw [List.drop_of_length_le (by rw [ls_length]; omega)]
    exact Ev.step (fun k => if_neg (by omega)) (Ev.now _)
  | m + 1, i, acc, hi, ha => by
    by_cases ci : i < b.size
    case neg =>
      rw [List.drop_of_length_le (by rw [ls_length]; omega)]
      exact Ev.step (fun k => if_neg (by omega)) (Ev.now _)
    have e1 : wrap64 ((i : Int) + 1) = ((i + 1 : Nat) : Int) := by rw [wrap64_id (by omega) (by omega)]; omega
    have e2 : wrap64 ((i : Int) + 2) = ((i + 2 : Nat) : Int) := by rw [wrap64_id (by omega) (by omega)]; omega
    have e3 : wrap64 (((i + 1 : Nat) : Int) + 1) = ((i + 2 : Nat) : Int) := by rw [wrap64_id (by omega) (by omega)]; omega
    have hc : bt b (i : Int) = (((ls b).getD i 0).toNat : Int) := bt_ls b _
    have hd := drop_cons 0 (ls b) i (by rw [ls_length]; omega)
    rw [hd]
    generalize hcc : (ls b).getD i 0 = c at hc ⊢
    by_cases c0 : c = 0
    · subst c0
      by_cases cj : i + 1 < b.size
      · have hd2 := drop_cons 0 (ls b) (i + 1) (by rw [ls_length]; omega)
        have hc2 : bt b ((i + 1 : Nat) : Int) = (((ls b).getD (i + 1) 0).toNat : Int) := bt_ls b _
        rw [hd2]
        generalize (ls b).getD (i + 1) 0 = d at hc2 ⊢
        refine Ev.step (fun k => (if_pos (by omega)).trans ((if_pos (by omega)).trans ((if_pos hc).trans ((if_neg (by rw [e1]; omega)).trans ((if_pos (by rw [e1]; omega)).trans (if_pos (by rw [e1]; omega))))))) ?_
        rw [e1, e2, hc2, Int.toNat_natCast, e3]
        simp only [okey_text.g, if_true]
        by_cases d1 : d = 1
        · subst d1
          refine Ev.iteT rfl (Ev.iteT (by omega) (Ev.iteT (by omega) ?_))
          rw [if_pos rfl, str_nn]
          rw [show b.extract (i + 2) b.size = ba ((ls b).drop (i + 1 + 1)) from ls_inj (by rw [ls_extract, ls_ba, List.take_of_length_le (by rw [ls_length]; exact Nat.le_refl _)])]
          exact Ev.now _
        · rw [if_neg d1]
          refine Ev.iteF (fun h => d1 (UInt8.toNat_inj.1 (by rw [show (1 : UInt8).toNat = 1 from rfl]; omega))) ?_
          by_cases d2 : d = 255
          · subst d2
            rw [if_pos rfl]
            refine Ev.iteT rfl (Ev.iteT (by rw [nn_length]; omega) ?_)
            rw [show nn acc ++ [0] = nn (acc ++ [0]) by simp [nn]]
            exact rread_l0 b hb m (i + 2) (acc ++ [0]) (by omega) (by simp; omega)
          · rw [if_neg d2]
            exact Ev.iteF (fun h => d2 (UInt8.toNat_inj.1 (by rw [show (255 : UInt8).toNat = 255 from rfl]; omega))) (Ev.now _)
      · rw [List.drop_of_length_le (i := i + 1) (by rw [ls_length]; omega)]
        refine Ev.step (fun k => (if_pos (by omega)).trans ((if_pos (by omega)).trans ((if_pos hc).trans (if_pos (by rw [e1]; omega))))) ?_
        rw [okey_text.g]
        exact Ev.now _
    · rw [okey_text.g_step _ _ _ c0]
      refine Ev.step (fun k => (if_pos (by omega)).trans ((if_pos (by omega)).trans ((if_neg (fun h => c0 (UInt8.toNat_inj.1 (by rw [show (0 : UInt8).toNat = 0 from rfl]; omega)))).trans (if_pos (by rw [nn_length]; omega))))) ?_
      rw [hc, e1, nn_snoc]
      exact rread_l0 b hb m (i + 1) (acc ++ [c]) (by omega) (by simp; omega)
theorem RGet_gen (b : ByteArray) (hb : b.size ≤ 1000000) {a r : ByteArray} {e : Int} (hg : okey_text.g [] (ls b) = (a, r, e)) :
    Ev (fun k => cornucopiaref1_Get.f k b [1]) (if e = 0 then ([(⟨1, a, 0, 0⟩ : S57)], r, 0) else ([], ⟨#[]⟩, e)) := by
  have h1 : Ev (fun k => cornucopiaref1_readKey.f k b) (a, r, e) := by
    have h := rread_l0 b hb b.size 0 [] (by omega) (by simp)
    rw [List.drop_zero, hg] at h
    exact h
  unfold cornucopiaref1_Get.f
  refine Ev.step (fun k => (if_pos (by decide)).trans ((if_pos (by decide)).trans ((if_neg (by decide)).trans (if_neg (by decide))))) ?_
  refine Ev.step (fun k => if_neg (by rw [w01]; decide)) ?_
  refine Ev.step (fun k => (if_pos (by decide)).trans ((if_pos (by decide)).trans (if_pos (by decide)))) ?_
  refine Ev.bind h1 ?_
  by_cases he : e = 0
  · rw [if_pos he]
    refine Ev.iteT he (Ev.iteT (by decide) ?_)
    exact Ev.step (fun k => if_neg (by rw [w01]; decide)) (Ev.now _)
  · rw [if_neg he]
    exact Ev.iteF he (Ev.now _)
theorem runfix_l0 (b : ByteArray) (t n : Nat) (hn : n ≤ 8) (hb : t + n ≤ b.size) (hs : b.size ≤ 9223372036854775807) : ∀ (m i v : Nat), i + m = n → v < 256 ^ i →
    Ev (fun k => cornucopiaref1_Unfix.l0 k b (t : Int) (n : Int) (v : Int) (i : Int)) (((unL v (((ls b).drop (t + i)).take m) : Nat) : Int), 0)
  | 0, i, v, hi, hv => by
    refine Ev.step (fun k => if_neg (by omega)) ?_
    rw [List.take_zero]
    exact Ev.now _
  | m + 1, i, v, hi, hv => by
    have e1 : wrap64 ((t : Int) + (i : Int)) = ((t + i : Nat) : Int) := by rw [wrap64_id (by omega) (by omega)]; omega
    have e4 : wrap64 ((i : Int) + 1) = ((i + 1 : Nat) : Int) := by rw [wrap64_id (by omega) (by omega)]; omega
    have hc := ((ls b).getD (t + i) 0).toNat_lt
    have hv7 : v < 256 ^ 7 := Nat.lt_of_lt_of_le hv (Nat.pow_le_pow_right (by omega) (by omega))
    have e2 : IntKind.u64.wrap ((v : Int) * 256) = ((v * 256 : Nat) : Int) := by rw [u64_id (by omega) (by omega)]; omega
    have e3 : bt b ((t + i : Nat) : Int) = (((ls b).getD (t + i) 0).toNat : Int) := bt_ls b _
    have e5 : IntKind.u64.wrap ((((ls b).getD (t + i) 0).toNat : Nat) : Int) = ((((ls b).getD (t + i) 0).toNat : Nat) : Int) := u64_id (by omega) (by omega)
    have e6 : IntKind.u64.wrap (((v * 256 : Nat) : Int) + ((((ls b).getD (t + i) 0).toNat : Nat) : Int)) = ((v * 256 + ((ls b).getD (t + i) 0).toNat : Nat) : Int) := by rw [u64_id (by omega) (by omega)]; omega
    refine Ev.step (fun k => (if_pos (by omega)).trans ((if_pos (by rw [e1]; omega)).trans (if_pos (by rw [e1]; omega)))) ?_
    rw [e1, e2, e3, e4, e5, e6]
    have h := runfix_l0 b t n hn hb hs m (i + 1) (v * 256 + ((ls b).getD (t + i) 0).toNat) (by omega) (by rw [Nat.pow_succ]; omega)
    rw [drop_cons 0 (ls b) (t + i) (by rw [ls_length]; omega), List.take_succ_cons]
    exact h
theorem RUnfix_ev (b : ByteArray) (t n : Nat) (h1 : 1 ≤ n) (hn : n ≤ 8) (hb : t + n ≤ b.size) (hs : b.size ≤ 9223372036854775807) :
    Ev (fun k => cornucopiaref1_Unfix.f k b (t : Int) (n : Int)) (((unL 0 (((ls b).drop t).take n) : Nat) : Int), 0) := by
  unfold cornucopiaref1_Unfix.f
  refine Ev.iteF (by omega) (Ev.iteF (by omega) ?_)
  rw [show decide ((t : Int) < 0) = false from decide_eq_false (by omega)]
  have e1 : wrap64 ((b.size : Int) - (n : Int)) = (b.size : Int) - (n : Int) := wrap64_id (by omega) (by omega)
  refine Ev.step (fun k => (cornucopiaref1_Unfix.j0.eq_2 _ _ _ _ _).trans ((if_neg (by simp)).trans (if_neg (by omega)))) ?_
  rw [e1, decide_eq_false (by omega : ¬ (t : Int) > (b.size : Int) - (n : Int))]
  refine Ev.step (fun k => (cornucopiaref1_Unfix.j1.eq_2 _ _ _ _ _).trans (if_neg (by simp))) ?_
  have h := runfix_l0 b t n hn hb hs n 0 0 (by omega) (by simp)
  rw [Nat.add_zero] at h
  exact h
theorem dots_same (b : ByteArray) (hb : b.size ≤ 1000000) : ∃ x1 x2 x3 x4 x5 x6 : Int, Ev (fun k => dot_Parse.f k b) (x1, x2, x3, x4, x5, x6) ∧ Ev (fun k => cornucopiaref17_Parse.f k b) (x1, x2, x3, x4, x5, x6) := by
  unfold dot_Parse.f cornucopiaref17_Parse.f
  by_cases c : b.size = 12
  · have hu := Unfix_ev b 4 8 (by omega) (by omega) (by omega) (by omega)
    have hv := RUnfix_ev b 4 8 (by omega) (by omega) (by omega) (by omega)
    generalize unL 0 (((ls b).drop 4).take 8) = n at hu hv
    by_cases cn : n = 0
    · exact ⟨0, 0, 0, 0, 0, 4, Ev.iteT c (Ev.bind hu (Ev.iteF (by show ¬ (n : Int) ≥ 1; omega) (Ev.now _))), Ev.iteT (by omega) (Ev.bind hv (Ev.iteT (by show (n : Int) = 0; omega) (Ev.now _)))⟩
    · exact ⟨bt b 0, bt b 1, bt b 2, bt b 3, n, 0, Ev.iteT c (Ev.bind hu (Ev.iteT (by show (n : Int) ≥ 1; omega) (Ev.now _))), Ev.iteT (by omega) (Ev.bind hv (Ev.iteF (by show ¬ (n : Int) = 0; omega) (Ev.iteT (by omega) (Ev.iteT (by omega) (Ev.iteT (by omega) (Ev.iteT (by omega) (Ev.now _)))))))⟩
  · exact ⟨0, 0, 0, 0, 0, 5, Ev.iteF c (Ev.now _), Ev.iteF (by omega) (Ev.now _)⟩
theorem RName_eq (a : ByteArray) : cornucopiaref20_ValidName.f a = layout_ValidName.f a := by
  unfold cornucopiaref20_ValidName.f layout_ValidName.f
  by_cases c : a.toList = []
  · have h0 : a.size = 0 := by rw [← ls_length, ← toList_ls, c]; rfl
    rw [if_pos c, if_neg (by omega)]
  · have h0 : a.size ≠ 0 := fun h => c (by rw [toList_ls]; exact List.length_eq_zero_iff.1 (by rw [ls_length]; exact h))
    rw [if_neg c, if_pos (by omega)]
theorem RElem_eq (a : ByteArray) : cornucopiaref20_ValidElem.f a = layout_ValidElem.f a := by
  unfold cornucopiaref20_ValidElem.f layout_ValidElem.f
  by_cases c : a.toList = []
  · have h0 : a.size = 0 := by rw [← ls_length, ← toList_ls, c]; rfl
    rw [if_pos c, if_neg (by omega)]
  · have h0 : a.size ≠ 0 := fun h => c (by rw [toList_ls]; exact List.length_eq_zero_iff.1 (by rw [ls_length]; exact h))
    rw [if_neg c, if_pos (by omega)]
abbrev Pl := ByteArray × Int × ByteArray × Int × Int × Int × Int × Int × Int
/-- A key that is none. -/
def noPl : Pl := (⟨#[]⟩, 0, ⟨#[]⟩, 0, 0, 0, 0, 0, 4)
theorem lj_bad (x : List S51) (y : ByteArray) : Ev (fun k => layout_Parse.j0 k x y true) noPl := Ev.step (fun k => (layout_Parse.j0.eq_2 _ _ _ _).trans (if_pos rfl)) (Ev.now _)
theorem rj0_bad (x : ByteArray) : Ev (fun k => cornucopiaref20_Parse.j0 k x true) noPl := Ev.step (fun k => (cornucopiaref20_Parse.j0.eq_2 _ _ _).trans (if_pos rfl)) (Ev.now _)
theorem rj1_bad (x : List S57) (y : ByteArray) : Ev (fun k => cornucopiaref20_Parse.j1 k x y true) noPl := Ev.step (fun k => (cornucopiaref20_Parse.j1.eq_2 _ _ _ _).trans (if_pos rfl)) (Ev.now _)
theorem rj2_bad (y : ByteArray) (a1 : ByteArray) (a2 : Int) (a3 : ByteArray) (b1 b2 b3 b4 b5 : Int) : Ev (fun k => cornucopiaref20_Parse.j2 k y true a1 a2 a3 b1 b2 b3 b4 b5) noPl := Ev.step (fun k => (cornucopiaref20_Parse.j2.eq_2 _ _ _ _ _ _ _ _ _ _ _).trans (if_pos rfl)) (Ev.now _)
theorem rd0r (x : S57) : rd_T57 [x] 0 = x := rfl
theorem ext1 (c : UInt8) (l : List UInt8) : (ba (c :: l)).extract 1 (ba (c :: l)).size = ba l := by
  apply ls_inj
  rw [ls_extract, ls_ba, ls_ba, List.take_of_length_le (by rw [size_ba]; exact Nat.le_refl _)]
  rfl
/-- The element's part. -/
theorem elem_same (s : ByteArray) (l : List UInt8) (hl : l.length ≤ 10000) : ∃ v : Pl, Ev (fun k => layout_elem.f k s 3 ⟨#[]⟩ 0 0 0 0 0 (ba l)) v ∧ Ev (fun k => cornucopiaref20_Parse.j2 k (ba (3 :: l)) false s 3 ⟨#[]⟩ 0 0 0 0 0) v := by
  obtain ⟨a, r, e, hg⟩ : ∃ a r e, okey_text.g [] (ls (ba l)) = (a, r, e) := ⟨_, _, _, rfl⟩
  have hbl : (ba l).size ≤ 1000000 := by rw [size_ba]; omega
  have h1 := Get_gen (ba l) hbl hg
  have h2 := RGet_gen (ba l) hbl hg
  have hr : r.size ≤ 1000000 := by
    have := g_size _ (ls (ba l)) [] (Nat.le_refl _)
    rw [hg, ls_length] at this
    exact Nat.le_trans this hbl
  have st : ∀ {v : Pl}, Ev (fun k => (cornucopiaref1_Get.f k (ba l) [1]).bind fun bt241 => (if bt241.2.2 = 0 then (if 0 < (bt241.1.length : Int) then ((cornucopiaref17_Parse.f k bt241.2.1).bind fun bt247 => (if bt247.2.2.2.2.2 = 0 then ((cornucopiaref20_ValidElem.f ((rd_T57 bt241.1 0).f1)).bind fun t254 => (if t254 = true then (some (s, 3, (rd_T57 bt241.1 0).f1, bt247.1, bt247.2.1, bt247.2.2.1, bt247.2.2.2.1, bt247.2.2.2.2.1, 0)) else (some ((⟨#[]⟩ : ByteArray), 0, (⟨#[]⟩ : ByteArray), 0, 0, 0, 0, 0, 4)))) else (some ((⟨#[]⟩ : ByteArray), 0, (⟨#[]⟩ : ByteArray), 0, 0, 0, 0, 0, 4)))) else (none)) else (some ((⟨#[]⟩ : ByteArray), 0, (⟨#[]⟩ : ByteArray), 0, 0, 0, 0, 0, 4)))) v → Ev (fun k => cornucopiaref20_Parse.j2 k (ba (3 :: l)) false s 3 ⟨#[]⟩ 0 0 0 0 0) v := fun {v} h => by
    refine Ev.step (fun k => (cornucopiaref20_Parse.j2.eq_2 _ _ _ _ _ _ _ _ _ _ _).trans ((if_neg (by simp)).trans ((if_neg (by omega)).trans (if_pos (by rw [size_ba, List.length_cons]; omega))))) ?_
    rw [ext1]
    exact h
  unfold layout_elem.f
  have bad : ∀ (x : List S51) (y : ByteArray), Ev (fun k => layout_elem.j0 k y x true s 3 ⟨#[]⟩ 0 0 0 0 0) noPl := fun x y => Ev.step (fun k => (layout_elem.j0.eq_2 _ _ _ _ _ _ _ _ _ _ _ _).trans (if_pos rfl)) (Ev.now _)
  by_cases he : e = 0
  · rw [if_pos he] at h1 h2
    obtain ⟨x1, x2, x3, x4, x5, x6, hx, hy⟩ := dots_same r hr
    obtain ⟨t, ht, _⟩ := Elem_eq a
    cases t with
    | false =>
      refine ⟨noPl, Ev.bind h1 (Ev.iteT rfl (Ev.iteT (one_pos _) ?_)), st (Ev.bind h2 (Ev.iteT rfl (Ev.iteT (one_pos _) (Ev.bind hy ?_))))⟩
      · rw [rd0]
        exact Ev.bindC ht (bad _ _)
      · by_cases c6 : x6 = 0
        · refine Ev.iteT c6 ?_
          rw [rd0r]
          exact Ev.bindC ((RElem_eq a).trans ht) (Ev.iteF (by simp) (Ev.now _))
        · exact Ev.iteF c6 (Ev.now _)
    | true =>
      by_cases c6 : x6 = 0
      · refine ⟨(s, 3, a, x1, x2, x3, x4, x5, 0), Ev.bind h1 (Ev.iteT rfl (Ev.iteT (one_pos _) ?_)), st (Ev.bind h2 (Ev.iteT rfl (Ev.iteT (one_pos _) (Ev.bind hy (Ev.iteT c6 ?_)))))⟩
        · rw [rd0]
          refine Ev.bindC ht (Ev.step (fun k => (layout_elem.j0.eq_2 _ _ _ _ _ _ _ _ _ _ _ _).trans (if_neg (by simp))) (Ev.bind hx (Ev.iteT c6 (Ev.iteT (one_pos _) ?_))))
          rw [rd0]
          exact Ev.now _
        · rw [rd0r]
          exact Ev.bindC ((RElem_eq a).trans ht) (Ev.iteT rfl (Ev.now _))
      · refine ⟨noPl, Ev.bind h1 (Ev.iteT rfl (Ev.iteT (one_pos _) ?_)), st (Ev.bind h2 (Ev.iteT rfl (Ev.iteT (one_pos _) (Ev.bind hy (Ev.iteF c6 (Ev.now _))))))⟩
        rw [rd0]
        exact Ev.bindC ht (Ev.step (fun k => (layout_elem.j0.eq_2 _ _ _ _ _ _ _ _ _ _ _ _).trans (if_neg (by simp))) (Ev.bind hx (Ev.iteF c6 (Ev.now _))))
  · rw [if_neg he] at h1 h2
    exact ⟨noPl, Ev.bind h1 (Ev.iteF he (bad _ _)), st (Ev.bind h2 (Ev.iteF he (Ev.now _)))⟩
theorem Cut_no (key : ByteArray) (hs : key.size ≤ 1000000) (h : ∀ l, ls key ≠ 111 :: l) : strings_CutPrefix.f key ⟨#[111]⟩ = some (key, false) := by
  have hp : stringslite_HasPrefix.f key ⟨#[111]⟩ = some false := by
    unfold stringslite_HasPrefix.f
    by_cases c : (key.size : Int) ≥ ((⟨#[111]⟩ : ByteArray).size : Int)
    · rw [if_pos c, if_pos (by decide), if_pos c]
      refine congrArg some ?_
      rw [beq_eq_false_iff_ne, toList_ls, toList_ls, ls_extract]
      intro h2
      cases hk : ls key with
      | nil =>
        have : key.size = 0 := by rw [← ls_length, hk]; rfl
        rw [this] at c
        exact absurd c (by decide)
      | cons d l =>
        rw [hk] at h2
        have h3 : [d] = [(111 : UInt8)] := h2
        exact h l (by rw [hk, (List.cons.inj h3).1])
    · rw [if_neg c]
  unfold strings_CutPrefix.f stringslite_CutPrefix.f
  rw [hp]
  simp only [Option.bind_some]
  rfl
theorem Parse_same (key : ByteArray) (hk : key.size ≤ 3000) : ∃ v : Pl, Ev (fun k => layout_Parse.f k key) v ∧ Ev (fun k => cornucopiaref20_Parse.f k key) v := by
  by_cases c : ∃ l, ls key = 111 :: l
  case neg =>
    obtain ⟨a, r, e, hg⟩ : ∃ a r e, okey_text.g [] (ls key) = (a, r, e) := ⟨_, _, _, rfl⟩
    refine ⟨noPl, ?_, ?_⟩
    · unfold layout_Parse.f
      exact Ev.bindC (Cut_no key (by omega) fun l h => c ⟨l, h⟩) (Ev.bind (Get_gen key (by omega) hg) (Ev.iteF (by simp) (lj_bad _ _)))
    · unfold cornucopiaref20_Parse.f
      cases hl : ls key with
      | nil => exact Ev.iteT (by rw [toList_ls]; exact hl) (rj0_bad _)
      | cons d l =>
        have hd : d ≠ 111 := fun h => c ⟨l, by rw [hl, h]⟩
        refine Ev.iteF (by rw [toList_ls, hl]; simp) (Ev.iteT (by have : key.size = l.length + 1 := (by rw [← ls_length, hl]; rfl); omega) ?_)
        have hb : (bt key 0 != 111) = true := by
          rw [bne_iff_ne, bt_ls, hl]
          intro h
          have h2 : (d.toNat : Int) = 111 := h
          exact hd (UInt8.toNat_inj.1 (by rw [show (111 : UInt8).toNat = 111 from rfl]; omega))
        rw [hb]
        exact rj0_bad _
  obtain ⟨l, hl⟩ := c
  obtain rfl : key = ba (111 :: l) := ls_inj (by rw [hl, ls_ba])
  clear hl
  have hll : l.length ≤ 3000 := by rw [size_ba, List.length_cons] at hk; omega
  have hbl : (ba l).size ≤ 1000000 := by rw [size_ba]; omega
  obtain ⟨a, r, e, hg⟩ : ∃ a r e, okey_text.g [] (ls (ba l)) = (a, r, e) := ⟨_, _, _, rfl⟩
  have h1 := Get_gen (ba l) hbl hg
  have h2 := RGet_gen (ba l) hbl hg
  have hr : r.size ≤ 3000 := by
    have := g_size _ (ls (ba l)) [] (Nat.le_refl _)
    rw [hg, ls_length, size_ba] at this
    exact Nat.le_trans this hll
  unfold layout_Parse.f cornucopiaref20_Parse.f
  have st : ∀ {v : Pl}, Ev (fun k => (cornucopiaref1_Get.f k (ba l) [1]).bind fun bt230 => (if bt230.2.2 = 0 then (if bt230.2.1.toList = ([] : List UInt8) then (cornucopiaref20_Parse.j1 k bt230.1 bt230.2.1 true) else (if 0 < (bt230.2.1.size : Int) then (cornucopiaref20_Parse.j1 k bt230.1 bt230.2.1 (decide ((bt bt230.2.1 0) > 3))) else (none))) else (cornucopiaref20_Parse.j1 k bt230.1 bt230.2.1 true))) v →
      Ev (fun k => if (ba (111 :: l)).toList = ([] : List UInt8) then (cornucopiaref20_Parse.j0 k (ba (111 :: l)) true) else (if 0 < ((ba (111 :: l)).size : Int) then (cornucopiaref20_Parse.j0 k (ba (111 :: l)) ((bt (ba (111 :: l)) 0) != 111)) else (none))) v := fun {v} h => by
    refine Ev.iteF (by rw [toList_ls, ls_ba]; simp) (Ev.iteT (by rw [size_ba, List.length_cons]; omega) ?_)
    rw [bt0, show ((((111 : UInt8).toNat : Nat) : Int) != 111) = false from rfl]
    refine Ev.step (fun k => (cornucopiaref20_Parse.j0.eq_2 _ _ _).trans ((if_neg (by simp)).trans (if_pos (by rw [size_ba, List.length_cons]; omega)))) ?_
    rw [ext1]
    exact h
  by_cases he : e = 0
  case neg =>
    rw [if_neg he] at h1 h2
    exact ⟨noPl, Ev.bindC (Cut_eq l (by omega)) (Ev.bind h1 (Ev.iteT rfl (Ev.iteF he (lj_bad _ _)))), st (Ev.bind h2 (Ev.iteF he (rj1_bad _ _)))⟩
  rw [if_pos he] at h1 h2
  obtain ⟨t, ht, _⟩ := Name_eq a
  have lt : ∀ {v : Pl}, Ev (fun k => if t = true then layout_Parse.j0 k [(⟨1, a, 0, 0⟩ : S51)] r (r.toList == []) else layout_Parse.j0 k [(⟨1, a, 0, 0⟩ : S51)] r true) v →
      Ev (fun k => (strings_CutPrefix.f (ba (111 :: l)) (⟨#[111]⟩ : ByteArray)).bind fun bt146 => ((okey_Get.f k bt146.1 (([1] : List Int))).bind fun bt151 => (if bt146.2 = true then (if bt151.2.2 = 0 then (if 0 < (bt151.1.length : Int) then ((layout_ValidName.f ((rd_T51 bt151.1 0).f1)).bind fun t157 => (if t157 = true then (layout_Parse.j0 k bt151.1 bt151.2.1 (bt151.2.1.toList == ([] : List UInt8))) else (layout_Parse.j0 k bt151.1 bt151.2.1 true))) else (none)) else (layout_Parse.j0 k bt151.1 bt151.2.1 true)) else (layout_Parse.j0 k bt151.1 bt151.2.1 true)))) v := fun {v} h => by
    refine Ev.bindC (Cut_eq l (by omega)) (Ev.bind h1 (Ev.iteT rfl (Ev.iteT rfl (Ev.iteT (one_pos _) ?_))))
    rw [rd0]
    exact Ev.bindC ht h
  cases hrl : ls r with
  | nil =>
    have hre : r.toList = [] := by rw [toList_ls]; exact hrl
    refine ⟨noPl, lt ?_, st (Ev.bind h2 (Ev.iteT rfl (Ev.iteT hre (rj1_bad _ _))))⟩
    rw [beq_iff_eq.2 hre]
    by_cases ct : t = true
    · exact Ev.iteT ct (lj_bad _ _)
    · exact Ev.iteF ct (lj_bad _ _)
  | cons d r2 =>
    obtain rfl : r = ba (d :: r2) := ls_inj (by rw [hrl, ls_ba])
    clear hrl
    have hr2 : r2.length ≤ 3000 := by rw [size_ba, List.length_cons] at hr; omega
    have hdl := d.toNat_lt
    have hne : (ba (d :: r2)).toList ≠ [] := by rw [toList_ls, ls_ba]; simp
    have hz : (ba (d :: r2)).size = r2.length + 1 := by rw [size_ba, List.length_cons]
    have hw : wrap64 (bt (ba (d :: r2)) 0) = (d.toNat : Int) := by rw [bt0, wrap64_id (by omega) (by omega)]
    rw [beq_eq_false_iff_ne.2 hne] at lt
    -- the reference, up to its second stop
    have st2 : ∀ {v : Pl}, Ev (fun k => cornucopiaref20_Parse.j1 k [(⟨1, a, 0, 0⟩ : S57)] (ba (d :: r2)) (decide ((d.toNat : Int) > 3))) v → Ev (fun k => (cornucopiaref1_Get.f k (ba l) [1]).bind fun bt230 => (if bt230.2.2 = 0 then (if bt230.2.1.toList = ([] : List UInt8) then (cornucopiaref20_Parse.j1 k bt230.1 bt230.2.1 true) else (if 0 < (bt230.2.1.size : Int) then (cornucopiaref20_Parse.j1 k bt230.1 bt230.2.1 (decide ((bt bt230.2.1 0) > 3))) else (none))) else (cornucopiaref20_Parse.j1 k bt230.1 bt230.2.1 true))) v := fun {v} h => by
      refine Ev.bind h2 (Ev.iteT rfl (Ev.iteF hne (Ev.iteT (by show 0 < (((ba (d :: r2)).size : Nat) : Int); omega) ?_)))
      rw [bt0]
      exact h
    by_cases ct : t = true
    case neg =>
      refine ⟨noPl, lt (Ev.iteF ct (lj_bad _ _)), st (st2 ?_)⟩
      by_cases c3 : (d.toNat : Int) > 3
      · rw [decide_eq_true c3]
        exact rj1_bad _ _
      · rw [decide_eq_false c3]
        refine Ev.step (fun k => (cornucopiaref20_Parse.j1.eq_2 _ _ _ _).trans ((if_neg (by simp)).trans ((if_pos (one_pos _)).trans (if_pos (by omega))))) ?_
        rw [rd0r]
        exact Ev.bindC ((RName_eq a).trans ht) (Ev.iteF ct (rj2_bad _ _ _ _ _ _ _ _ _))
    have lt2 : ∀ {v : Pl}, Ev (fun k => layout_Parse.j0 k [(⟨1, a, 0, 0⟩ : S51)] (ba (d :: r2)) false) v → _ := fun {v} h => lt (v := v) (Ev.iteT ct h)
    by_cases c3 : (d.toNat : Int) > 3
    · refine ⟨noPl, lt2 ?_, st (st2 ?_)⟩
      · exact Ev.step (fun k => (layout_Parse.j0.eq_2 _ _ _ _).trans ((if_neg (by simp)).trans ((if_pos (one_pos _)).trans ((if_pos (by omega)).trans ((if_neg (by rw [hw]; omega)).trans (if_pos (by rw [hw]; exact c3))))))) (Ev.now _)
      · rw [decide_eq_true c3]
        exact rj1_bad _ _
    rw [decide_eq_false c3] at st2
    have st3 : ∀ {v : Pl}, Ev (fun k => if (d.toNat : Int) < 3 then cornucopiaref20_Parse.j2 k (ba (d :: r2)) (decide (((ba (d :: r2)).size : Int) > 1)) a (d.toNat : Int) ⟨#[]⟩ 0 0 0 0 0 else cornucopiaref20_Parse.j2 k (ba (d :: r2)) false a (d.toNat : Int) ⟨#[]⟩ 0 0 0 0 0) v → Ev (fun k => cornucopiaref20_Parse.j1 k [(⟨1, a, 0, 0⟩ : S57)] (ba (d :: r2)) false) v := fun {v} h => by
      refine Ev.step (fun k => (cornucopiaref20_Parse.j1.eq_2 _ _ _ _).trans ((if_neg (by simp)).trans ((if_pos (one_pos _)).trans (if_pos (by omega))))) ?_
      rw [rd0r, hw]
      exact Ev.bindC ((RName_eq a).trans ht) (Ev.iteT ct h)
    by_cases c4 : (d.toNat : Int) = 3
    · have hd3 : d = 3 := UInt8.toNat_inj.1 (by rw [show (3 : UInt8).toNat = 3 from rfl]; omega)
      subst hd3
      obtain ⟨v, hv1, hv2⟩ := elem_same a r2 (by omega)
      refine ⟨v, lt2 ?_, st (st2 (st3 (Ev.iteF (by omega) hv2)))⟩
      refine Ev.step (fun k => (layout_Parse.j0.eq_2 _ _ _ _).trans ((if_neg (by simp)).trans ((if_pos (one_pos _)).trans ((if_pos (by omega)).trans ((if_pos (by rw [hw]; exact c4)).trans (if_pos (by omega))))))) ?_
      rw [rd0, hw, ext1]
      exact Ev.bind hv1 (Ev.now _)
    · have c5 : (d.toNat : Int) < 3 := by omega
      by_cases c6 : ((ba (d :: r2)).size : Int) > 1
      · refine ⟨noPl, lt2 ?_, st (st2 (st3 (Ev.iteT c5 ?_)))⟩
        · exact Ev.step (fun k => (layout_Parse.j0.eq_2 _ _ _ _).trans ((if_neg (by simp)).trans ((if_pos (one_pos _)).trans ((if_pos (by omega)).trans ((if_neg (by rw [hw]; exact c4)).trans ((if_neg (by rw [hw]; exact c3)).trans (if_pos c6))))))) (Ev.now _)
        · rw [decide_eq_true c6]
          exact rj2_bad _ _ _ _ _ _ _ _ _
      · refine ⟨(a, (d.toNat : Int), ⟨#[]⟩, 0, 0, 0, 0, 0, 0), lt2 ?_, st (st2 (st3 (Ev.iteT c5 ?_)))⟩
        · refine Ev.step (fun k => (layout_Parse.j0.eq_2 _ _ _ _).trans ((if_neg (by simp)).trans ((if_pos (one_pos _)).trans ((if_pos (by omega)).trans ((if_neg (by rw [hw]; exact c4)).trans ((if_neg (by rw [hw]; exact c3)).trans (if_neg c6))))))) ?_
          rw [rd0, hw]
          exact Ev.now _
        · rw [decide_eq_false c6]
          exact Ev.step (fun k => (cornucopiaref20_Parse.j2.eq_2 _ _ _ _ _ _ _ _ _ _ _).trans ((if_neg (by simp)).trans (if_pos c5))) (Ev.now _)
theorem LayoutTells_pure (s e : ByteArray) (p : Int) {a b c d n : Int} (h : Dt a b c d n) (key : ByteArray) : ∃ k, cornucopialaw21_LayoutTells.f k s e p a b c d n key = some true := by
  refine Ev.rounds ?_
  have hal : Ev (fun k => cornucopialaw21_LayoutTells.j0 k s e p key true a b c d n) true :=
    Ev.step (fun k => (cornucopialaw21_LayoutTells.j0.eq_2 _ _ _ _ _ _ _ _ _ _ _).trans (if_pos rfl)) (Ev.bind alive_ev (Ev.now _))
  unfold cornucopialaw21_LayoutTells.f
  by_cases c1 : (s.size : Int) > 3000
  · exact Ev.iteT c1 hal
  refine Ev.iteF c1 ?_
  by_cases c2 : (e.size : Int) > 3000
  · exact Ev.iteT c2 hal
  refine Ev.iteF c2 ?_
  by_cases c3 : (key.size : Int) > 3000
  · rw [decide_eq_true c3]; exact hal
  rw [decide_eq_false c3]
  refine Ev.step (fun k => (cornucopialaw21_LayoutTells.j0.eq_2 _ _ _ _ _ _ _ _ _ _ _).trans (if_neg (by simp))) ?_
  obtain ⟨⟨v1, v2, v3, v4, v5, v6, v7, v8, v9⟩, hv1, hv2⟩ := Parse_same key (by omega)
  obtain ⟨t1, ht1, _⟩ := Name_eq s
  obtain ⟨t2, ht2, _⟩ := Elem_eq e
  refine Ev.bind hv1 (Ev.bind hv2 (Ev.bind (Ends_ev s (by omega)) (Ev.bind (REnds_ev s (by omega)) (Ev.bind alive_ev (Ev.iteT rfl (Ev.bindC (Key_int s (by omega) p) (Ev.bind (RKey_ev s (by omega) p) (Ev.iteT rfl ?_))))))))
  refine Ev.bind (ElemKey_ev s e (by omega) (by omega) h) (Ev.bind (RElemKey_ev s e (by omega) (by omega) h) (Ev.iteT rfl (Ev.bindC (ElemPrefix_eq s e (by omega) (by omega)) (Ev.bind (RElemPrefix_ev s e (by omega) (by omega)) (Ev.iteT rfl ?_)))))
  refine Ev.iteT rfl (Ev.iteT rfl (Ev.iteT rfl (Ev.iteT rfl (Ev.iteT rfl (Ev.iteT (by simp) (Ev.iteT rfl (Ev.bindC ht1 (Ev.bindC ((RName_eq s).trans ht1) (Ev.iteT (by simp) (Ev.bindC ht2 (Ev.bindC ((RElem_eq e).trans ht2) ?_)))))))))))
  rw [show (t2 == t2) = true by simp]
  exact Ev.now _
end Go.Proofs.YtdigpaniganndaaDoor.Pure
end
