/- Numbers in so many bytes, dots' bytes, in plain words. -/
import Derived.Test.YtdfaoafeojoceaaPAllx0
import Derived.Test.YtdfaoafeojoceaaPAllx6
import Derived.Test.YtdfaoafeojoceaaPAllx9
import Derived.Test.YtdfaoafeojoceaaPAllx13
import Derived.Test.YtdfaoafeojoceaaPb
set_option linter.unusedSimpArgs false
set_option linter.unusedVariables false
namespace Go.Proofs.Ytdfaoafeojoceaa.Pure
open Go.RowKit Go.Proofs.Ytdfaoafeojoceaa.PAll Go.Proofs.YtdfaoafeojoceaaW.PrintWords Go.Proofs.YtdfaoafeojoceaaW.PrintMore Go.Proofs.Ytdfaoafeojoceaa.Pb

def ben : Nat → Nat → List Nat
  | 0, _ => []
  | n + 1, v => v / 256 ^ n % 256 :: ben n v
def be (n v : Nat) : List UInt8 := (ben n v).map UInt8.ofNat
theorem ben_length : ∀ n v, (ben n v).length = n
  | 0, _ => rfl
  | n + 1, v => by simp [ben, ben_length n v]
@[simp] theorem be_length (n v : Nat) : (be n v).length = n := by simp [be, ben_length]
def unL (a : Nat) (l : List UInt8) : Nat := l.foldl (fun v c => v * 256 + c.toNat) a
theorem unL_be : ∀ (n a v : Nat), unL a (be n v) = a * 256 ^ n + v % 256 ^ n
  | 0, a, v => by simp [unL, be, ben, Nat.mod_one]
  | n + 1, a, v => by
    have h := unL_be n (a * 256 + v / 256 ^ n % 256) v
    have e : (UInt8.ofNat (v / 256 ^ n % 256)).toNat = v / 256 ^ n % 256 := by simp
    simp only [unL, be, ben, List.map_cons, List.foldl_cons, e] at h ⊢
    rw [h, Nat.pow_succ, Nat.mod_mul, Nat.add_mul]
    rw [Nat.mul_comm (256 ^ n) 256, Nat.mul_assoc, Nat.mul_comm (256 ^ n) (v / 256 ^ n % 256)]
    omega
theorem unL_lt : ∀ (l : List UInt8) (a i : Nat), a < 256 ^ i → unL a l < 256 ^ (i + l.length)
  | [], a, i, h => h
  | c :: l, a, i, h => by
    have h2 : a * 256 + c.toNat < 256 ^ (i + 1) := by
      have := c.toNat_lt
      rw [Nat.pow_succ]; omega
    have := unL_lt l (a * 256 + c.toNat) (i + 1) h2
    rw [List.length_cons, show i + (l.length + 1) = i + 1 + l.length by omega]
    exact this
theorem or_add (v c : Nat) (h : c < 256) : v * 256 ||| c = v * 256 + c := by
  have := Nat.shiftLeft_add_eq_or_of_lt (b := c) (i := 8) h v
  rw [Nat.shiftLeft_eq] at this
  exact this.symm
theorem unfix_l0 (b : ByteArray) (t n : Nat) (hn : n ≤ 8) (hb : t + n ≤ b.size) (hs : b.size ≤ 9223372036854775807) : ∀ (m i v : Nat), i + m = n → v < 256 ^ i →
    Ev (fun k => num_Unfix.l0 k b (t : Int) (v : Int) (n : Int) (i : Int)) (((unL v (((ls b).drop (t + i)).take m) : Nat) : Int), 0)
  | 0, i, v, hi, hv => by
    refine Ev.step (fun k => if_neg (by omega)) ?_
    rw [List.take_zero]
    exact Ev.now _
  | m + 1, i, v, hi, hv => by
    have e1 : wrap64 ((t : Int) + (i : Int)) = ((t + i : Nat) : Int) := by rw [wrap64_id (by omega) (by omega)]; omega
    have e4 : wrap64 ((i : Int) + 1) = ((i + 1 : Nat) : Int) := by rw [wrap64_id (by omega) (by omega)]; omega
    have hc := ((ls b).getD (t + i) 0).toNat_lt
    have hv7 : v < 256 ^ 7 := Nat.lt_of_lt_of_le hv (Nat.pow_le_pow_right (by omega) (by omega))
    have e2 : IntKind.u64.wrap ((v : Int) * 256) = ((v * 256 : Nat) : Int) := by rw [u64_id (by omega) (by omega)]; omega
    have e3 : bt b ((t + i : Nat) : Int) = (((ls b).getD (t + i) 0).toNat : Int) := bt_ls b _
    have e5 : IntKind.u64.wrap ((((ls b).getD (t + i) 0).toNat : Nat) : Int) = ((((ls b).getD (t + i) 0).toNat : Nat) : Int) := u64_id (by omega) (by omega)
    refine Ev.step (fun k => (if_pos (by omega)).trans ((if_pos (by rw [e1]; omega)).trans (if_pos (by rw [e1]; omega)))) ?_
    rw [e1, e2, e3, e4, e5, u64_or_nat _ _ (by omega) (by omega), or_add _ _ (by omega)]
    have h := unfix_l0 b t n hn hb hs m (i + 1) (v * 256 + ((ls b).getD (t + i) 0).toNat) (by omega) (by rw [Nat.pow_succ]; omega)
    rw [drop_cons 0 (ls b) (t + i) (by rw [ls_length]; omega), List.take_succ_cons]
    exact h
theorem Unfix_ev (b : ByteArray) (t n : Nat) (h1 : 1 ≤ n) (hn : n ≤ 8) (hb : t + n ≤ b.size) (hs : b.size ≤ 9223372036854775807) :
    Ev (fun k => num_Unfix.f k b (t : Int) (n : Int)) (((unL 0 (((ls b).drop t).take n) : Nat) : Int), 0) := by
  unfold num_Unfix.f
  refine Ev.iteF (by omega) (Ev.iteF (by omega) ?_)
  rw [show decide ((t : Int) < 0) = false from decide_eq_false (by omega)]
  have e1 : wrap64 ((b.size : Int) - (t : Int)) = (b.size : Int) - (t : Int) := wrap64_id (by omega) (by omega)
  refine Ev.step (fun k => (num_Unfix.j0.eq_2 _ _ _ _ _).trans ((if_neg (by simp)).trans ((if_neg (by omega)).trans (if_neg (by rw [e1]; omega))))) ?_
  have h := unfix_l0 b t n hn hb hs n 0 0 (by omega) (by simp)
  rw [Nat.add_zero] at h
  exact h
def db (a b c d n : Int) : List UInt8 := [UInt8.ofNat a.toNat, UInt8.ofNat b.toNat, UInt8.ofNat c.toNat, UInt8.ofNat d.toNat] ++ be 8 n.toNat
theorem db_length (a b c d n : Int) : (db a b c d n).length = 12 := by simp [db]
structure Dt (a b c d n : Int) : Prop where
  a : 0 ≤ a ∧ a < 256
  b : 0 ≤ b ∧ b < 256
  c : 0 ≤ c ∧ c < 256
  d : 0 ≤ d ∧ d < 256
  n : 0 ≤ n ∧ n < 18446744073709551616
theorem ls_four (a b c d : Int) : ls (strOfNums [a, b, c, d]) = [UInt8.ofNat a.toNat, UInt8.ofNat b.toNat, UInt8.ofNat c.toNat, UInt8.ofNat d.toNat] := by simp [ls, strOfNums]
theorem runfix_l0 (b : ByteArray) (t n : Nat) (hn : n ≤ 8) (hb : t + n ≤ b.size) (hs : b.size ≤ 9223372036854775807) : ∀ (m i v : Nat), i + m = n → v < 256 ^ i →
    Ev (fun k => cornucopiaref1_Unfix.l0 k b (t : Int) (n : Int) (v : Int) (i : Int)) (((unL v (((ls b).drop (t + i)).take m) : Nat) : Int), 0)
  | 0, i, v, hi, hv => by
    refine Ev.step (fun k => if_neg (by omega)) ?_
    rw [List.take_zero]
    exact Ev.now _
  | m + 1, i, v, hi, hv => by
    have e1 : wrap64 ((t : Int) + (i : Int)) = ((t + i : Nat) : Int) := by rw [wrap64_id (by omega) (by omega)]; omega
    have e4 : wrap64 ((i : Int) + 1) = ((i + 1 : Nat) : Int) := by rw [wrap64_id (by omega) (by omega)]; omega
    have hc := ((ls b).getD (t + i) 0).toNat_lt
    have hv7 : v < 256 ^ 7 := Nat.lt_of_lt_of_le hv (Nat.pow_le_pow_right (by omega) (by omega))
    have e2 : IntKind.u64.wrap ((v : Int) * 256) = ((v * 256 : Nat) : Int) := by rw [u64_id (by omega) (by omega)]; omega
    have e3 : bt b ((t + i : Nat) : Int) = (((ls b).getD (t + i) 0).toNat : Int) := bt_ls b _
    have e5 : IntKind.u64.wrap ((((ls b).getD (t + i) 0).toNat : Nat) : Int) = ((((ls b).getD (t + i) 0).toNat : Nat) : Int) := u64_id (by omega) (by omega)
    have e6 : IntKind.u64.wrap (((v * 256 : Nat) : Int) + ((((ls b).getD (t + i) 0).toNat : Nat) : Int)) = ((v * 256 + ((ls b).getD (t + i) 0).toNat : Nat) : Int) := by rw [u64_id (by omega) (by omega)]; omega
    refine Ev.step (fun k => (if_pos (by omega)).trans ((if_pos (by rw [e1]; omega)).trans (if_pos (by rw [e1]; omega)))) ?_
    rw [e1, e2, e3, e4, e5, e6]
    have h := runfix_l0 b t n hn hb hs m (i + 1) (v * 256 + ((ls b).getD (t + i) 0).toNat) (by omega) (by rw [Nat.pow_succ]; omega)
    rw [drop_cons 0 (ls b) (t + i) (by rw [ls_length]; omega), List.take_succ_cons]
    exact h
theorem RUnfix_ev (b : ByteArray) (t n : Nat) (h1 : 1 ≤ n) (hn : n ≤ 8) (hb : t + n ≤ b.size) (hs : b.size ≤ 9223372036854775807) :
    Ev (fun k => cornucopiaref1_Unfix.f k b (t : Int) (n : Int)) (((unL 0 (((ls b).drop t).take n) : Nat) : Int), 0) := by
  unfold cornucopiaref1_Unfix.f
  refine Ev.iteF (by omega) (Ev.iteF (by omega) ?_)
  rw [show decide ((t : Int) < 0) = false from decide_eq_false (by omega)]
  have e1 : wrap64 ((b.size : Int) - (n : Int)) = (b.size : Int) - (n : Int) := wrap64_id (by omega) (by omega)
  refine Ev.step (fun k => (cornucopiaref1_Unfix.j0.eq_2 _ _ _ _ _).trans ((if_neg (by simp)).trans (if_neg (by omega)))) ?_
  rw [e1, decide_eq_false (by omega : ¬ (t : Int) > (b.size : Int) - (n : Int))]
  refine Ev.step (fun k => (cornucopiaref1_Unfix.j1.eq_2 _ _ _ _ _).trans (if_neg (by simp))) ?_
  have h := runfix_l0 b t n hn hb hs n 0 0 (by omega) (by simp)
  rw [Nat.add_zero] at h
  exact h
theorem ben_snoc : ∀ (n v : Nat), ben (n + 1) v = ben n (v / 256) ++ [v % 256]
  | 0, v => by simp [ben]
  | n + 1, v => by
    rw [ben, ben_snoc n v, ben, List.cons_append, Nat.div_div_eq_div_mul, Nat.pow_succ, Nat.mul_comm 256]
theorem rfix_l0 : ∀ (i v : Nat) (xs : List Int), i ≤ xs.length → xs.length ≤ 1000 → v < 256 ^ i → v < 18446744073709551616 →
    Ev (fun k => cornucopiaref1_Fix.l0 k (v : Int) xs ((i : Int) - 1)) (strOfNums (((ben i v).map fun d : Nat => (d : Int)) ++ xs.drop i), 0)
  | 0, v, xs, hl, hx, hv, h64 => by
    have hv0 : v = 0 := by simpa using hv
    subst hv0
    refine Ev.step (fun k => (if_neg (by omega)).trans (if_neg (by omega))) ?_
    simp only [ben, List.map_nil, List.nil_append, List.drop_zero]
    exact Ev.now _
  | i + 1, v, xs, hl, hx, hv, h64 => by
    have e0 : ((i + 1 : Nat) : Int) - 1 = (i : Int) := by omega
    have e1 : wrap64 ((i : Int) - 1) = (i : Int) - 1 := wrap64_id (by omega) (by omega)
    have e2 : IntKind.u64.wrap (Int.tdiv (v : Int) 256) = ((v / 256 : Nat) : Int) := by
      rw [show Int.tdiv (v : Int) 256 = ((v / 256 : Nat) : Int) from rfl]
      exact u64_id (by omega) (by omega)
    have e3 : (Int.tmod (v : Int) 256) % 256 = ((v % 256 : Nat) : Int) := by
      rw [show Int.tmod (v : Int) 256 = ((v % 256 : Nat) : Int) from rfl]
      omega
    rw [e0]
    refine Ev.step (fun k => (if_pos (by omega)).trans ((if_pos (by omega)).trans (if_pos (by omega)))) ?_
    rw [e1, e2, e3, Int.toNat_natCast]
    have h := rfix_l0 i (v / 256) (xs.set i ((v % 256 : Nat) : Int)) (by rw [List.length_set]; omega) (by rw [List.length_set]; omega) (by rw [Nat.pow_succ] at hv; omega) (by omega)
    have hd : (xs.set i ((v % 256 : Nat) : Int)).drop i = ((v % 256 : Nat) : Int) :: xs.drop (i + 1) := by
      rw [List.set_eq_take_append_cons_drop, if_pos (by omega), List.drop_append, List.length_take, Nat.min_eq_left (by omega), Nat.sub_self, List.drop_zero, List.drop_take, Nat.sub_self, List.take_zero, List.nil_append]
    rw [hd] at h
    rw [ben_snoc, List.map_append, List.append_assoc]
    exact h
theorem RBytes_ev {a b c d n : Int} (h : Dt a b c d n) : Ev (fun k => cornucopiaref17_Bytes.f k a b c d n) (ba (db a b c d n)) := by
  have hn := h.n
  have hf : Ev (fun k => cornucopiaref1_Fix.f k n 8) (ba (be 8 n.toNat), 0) := by
    unfold cornucopiaref1_Fix.f
    refine Ev.iteF (by omega) ?_
    rw [show decide ((8 : Int) > 8) = false from rfl]
    refine Ev.step (fun k => (cornucopiaref1_Fix.j0.eq_2 _ _ _ _).trans ((if_neg (by simp)).trans ((if_pos (by omega)).trans (if_pos (by decide))))) ?_
    have h8 := rfix_l0 8 n.toNat (List.replicate 8 0) (by simp) (by simp) (by omega) (by omega)
    rw [Int.toNat_of_nonneg hn.1] at h8
    have e : strOfNums (((ben 8 n.toNat).map fun d : Nat => (d : Int)) ++ (List.replicate 8 (0 : Int)).drop 8) = ba (be 8 n.toNat) := by
      rw [show (List.replicate 8 (0 : Int)).drop 8 = [] from rfl, List.append_nil]
      apply ls_inj; rw [ls_strOfNums, ls_ba]; rfl
    rw [e] at h8
    rw [show wrap64 (8 - 1) = ((8 : Nat) : Int) - 1 from wrap64_id (by omega) (by omega)]
    exact h8
  have hN : Ev (fun k => cornucopiaref1_Num.f k n) (ba (be 8 n.toNat)) := by
    unfold cornucopiaref1_Num.f cornucopiaref1_fix.f
    exact Ev.bind (Ev.bind hf (Ev.now _)) (Ev.now _)
  unfold cornucopiaref17_Bytes.f
  refine Ev.bindC rfl (Ev.bind hN (Ev.iteT ?_ ?_))
  · rw [size_ba, be_length, ← ls_length, ls_four]; simp
  · rw [show strOfNums [a, b, c, d] ++ ba (be 8 n.toNat) = ba (db a b c d n) from ls_inj (by simp [ls_four, db])]
    exact Ev.now _
end Go.Proofs.Ytdfaoafeojoceaa.Pure
