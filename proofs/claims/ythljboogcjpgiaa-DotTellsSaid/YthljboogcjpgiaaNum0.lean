/- Numbers in so many bytes, in plain words: what the printed Fix and Unfix answer. -/
import Derived.Test.YthljboogcjpgiaaPAllx4
import Derived.Test.YthljboogcjpgiaaPAllx5
import Derived.Test.YthljboogcjpgiaaPb
set_option linter.unusedSimpArgs false
set_option linter.unusedVariables false
namespace Go.Proofs.Ythljboogcjpgiaa.Pure
open Go.RowKit Go.Proofs.Ythljboogcjpgiaa.PAll Go.Proofs.YthljboogcjpgiaaW.PrintWords Go.Proofs.YthljboogcjpgiaaW.PrintMore Go.Proofs.Ythljboogcjpgiaa.Pb

/-- The n lowest bytes of v, the highest first. -/
def ben : Nat → Nat → List Nat
  | 0, _ => []
  | n + 1, v => v / 256 ^ n % 256 :: ben n v
def be (n v : Nat) : List UInt8 := (ben n v).map UInt8.ofNat
theorem ben_length : ∀ n v, (ben n v).length = n
  | 0, _ => rfl
  | n + 1, v => by simp [ben, ben_length n v]
@[simp] theorem be_length (n v : Nat) : (be n v).length = n := by simp [be, ben_length]
def unL (a : Nat) (l : List UInt8) : Nat := l.foldl (fun v c => v * 256 + c.toNat) a
theorem unL_be : ∀ (n a v : Nat), unL a (be n v) = a * 256 ^ n + v % 256 ^ n
  | 0, a, v => by simp [unL, be, ben, Nat.mod_one]
  | n + 1, a, v => by
    have h := unL_be n (a * 256 + v / 256 ^ n % 256) v
    have e : (UInt8.ofNat (v / 256 ^ n % 256)).toNat = v / 256 ^ n % 256 := by simp
    simp only [unL, be, ben, List.map_cons, List.foldl_cons, e] at h ⊢
    rw [h, Nat.pow_succ, Nat.mod_mul, Nat.add_mul]
    rw [Nat.mul_comm (256 ^ n) 256, Nat.mul_assoc, Nat.mul_comm (256 ^ n) (v / 256 ^ n % 256)]
    omega
theorem unL_lt : ∀ (l : List UInt8) (a i : Nat), a < 256 ^ i → unL a l < 256 ^ (i + l.length)
  | [], a, i, h => h
  | c :: l, a, i, h => by
    have h2 : a * 256 + c.toNat < 256 ^ (i + 1) := by
      have := c.toNat_lt
      rw [Nat.pow_succ]; omega
    have := unL_lt l (a * 256 + c.toNat) (i + 1) h2
    rw [List.length_cons, show i + (l.length + 1) = i + 1 + l.length by omega]
    exact this
theorem pow256 (n : Nat) : 256 ^ n = 2 ^ (8 * n) := by rw [Nat.pow_mul]
theorem shr_div (v m : Nat) (h : m ≤ 8) : shr .u64 (v : Int) ((8 * m : Nat) : Int) = ((v / 256 ^ m : Nat) : Int) := by
  unfold shr
  rw [Int.toNat_natCast, show min (8 * m) IntKind.u64.bits = 8 * m from Nat.min_eq_left (by show 8 * m ≤ 64; omega), pow256]
  norm_cast
theorem set_take (xs : List Int) (i : Nat) (d : Int) (h : i < xs.length) : (xs.set i d).take (i + 1) = xs.take i ++ [d] := by
  rw [List.set_eq_take_append_cons_drop, if_pos h, List.take_append, List.length_take, Nat.min_eq_left (Nat.le_of_lt h), List.take_take]
  rw [Nat.min_eq_right (by omega), show i + 1 - i = 1 by omega]
  rfl
theorem fix_l0 (v n : Nat) (hn : n ≤ 8) : ∀ (m i : Nat) (xs : List Int), xs.length = n → i + m = n →
    Ev (fun k => num_Fix.l0 k (v : Int) (n : Int) xs (n : Int) (i : Int)) (strOfNums (xs.take i ++ (ben m v).map fun d : Nat => (d : Int)), 0)
  | 0, i, xs, hl, hi => by
    refine Ev.step (fun k => if_neg (by omega)) ?_
    rw [List.take_of_length_le (by omega)]
    simp only [ben, List.map_nil, List.append_nil]
    exact Ev.now _
  | m + 1, i, xs, hl, hi => by
    have e1 : wrap64 ((n : Int) - 1) = (n : Int) - 1 := wrap64_id (by omega) (by omega)
    have e2 : wrap64 ((n : Int) - 1 - (i : Int)) = (m : Int) := by rw [show (n : Int) - 1 - (i : Int) = (m : Int) by omega]; exact wrap64_id (by omega) (by omega)
    have e3 : wrap64 (8 * (m : Int)) = ((8 * m : Nat) : Int) := by rw [wrap64_id (by omega) (by omega)]; omega
    have e4 : wrap64 ((i : Int) + 1) = ((i + 1 : Nat) : Int) := by rw [wrap64_id (by omega) (by omega)]; omega
    have e5 : shr .u64 (v : Int) ((8 * m : Nat) : Int) % 256 = ((v / 256 ^ m % 256 : Nat) : Int) := by rw [shr_div v m (by omega)]; omega
    refine Ev.step (fun k => (if_pos (by omega)).trans ((if_pos (by rw [e1, e2, e3]; omega)).trans ((if_pos (by omega)).trans (if_pos (by omega))))) ?_
    rw [e1, e2, e3, e4, e5, Int.toNat_natCast]
    have h := fix_l0 v n hn m (i + 1) (xs.set i ((v / 256 ^ m % 256 : Nat) : Int)) (by rw [List.length_set]; exact hl) (by omega)
    rw [set_take xs i _ (by omega), List.append_assoc] at h
    exact h
theorem fix_j0 (v n : Nat) (hn : n ≤ 8) : Ev (fun k => num_Fix.j0 k (v : Int) (n : Int) false) (ba (be n v), 0) := by
  refine Ev.step (fun k => (num_Fix.j0.eq_2 _ _ _ _).trans ((if_neg (by simp)).trans ((if_pos (by omega)).trans (if_pos (by omega))))) ?_
  refine Ev.someBind ?_
  rw [Int.toNat_natCast, List.length_replicate]
  have h := fix_l0 v n hn n 0 (List.replicate n 0) (by simp) (by omega)
  rw [List.take_zero, List.nil_append] at h
  have e : strOfNums ((ben n v).map fun d : Nat => (d : Int)) = ba (be n v) := by
    apply ls_inj; rw [ls_strOfNums, ls_ba]; rfl
  rw [e] at h
  exact h
theorem Fix_ev (v n : Nat) (h1 : 1 ≤ n) (hn : n ≤ 8) (hv : v < 256 ^ n) : Ev (fun k => num_Fix.f k (v : Int) (n : Int)) (ba (be n v), 0) := by
  unfold num_Fix.f
  refine Ev.iteF (by omega) (Ev.iteF (by omega) ?_)
  have h := fix_j0 v n hn
  by_cases h8 : (n : Int) < 8
  · have e3 : wrap64 (8 * (n : Int)) = ((8 * n : Nat) : Int) := by rw [wrap64_id (by omega) (by omega)]; omega
    refine Ev.iteT h8 ?_
    rw [e3]
    refine Ev.iteT (by omega) ?_
    rw [shr_div v n (by omega), Nat.div_eq_of_lt hv]
    exact h
  · exact Ev.iteF h8 h

theorem or_add (v c : Nat) (h : c < 256) : v * 256 ||| c = v * 256 + c := by
  have := Nat.shiftLeft_add_eq_or_of_lt (b := c) (i := 8) h v
  rw [Nat.shiftLeft_eq] at this
  exact this.symm
theorem unfix_l0 (b : ByteArray) (t n : Nat) (hn : n ≤ 8) (hb : t + n ≤ b.size) (hs : b.size ≤ 9223372036854775807) : ∀ (m i v : Nat), i + m = n → v < 256 ^ i →
    Ev (fun k => num_Unfix.l0 k b (t : Int) (v : Int) (n : Int) (i : Int)) (((unL v (((ls b).drop (t + i)).take m) : Nat) : Int), 0)
  | 0, i, v, hi, hv => by
    refine Ev.step (fun k => if_neg (by omega)) ?_
    rw [List.take_zero]
    exact Ev.now _
  | m + 1, i, v, hi, hv => by
    have e1 : wrap64 ((t : Int) + (i : Int)) = ((t + i : Nat) : Int) := by rw [wrap64_id (by omega) (by omega)]; omega
    have e4 : wrap64 ((i : Int) + 1) = ((i + 1 : Nat) : Int) := by rw [wrap64_id (by omega) (by omega)]; omega
    have hc := ((ls b).getD (t + i) 0).toNat_lt
    have hv7 : v < 256 ^ 7 := Nat.lt_of_lt_of_le hv (Nat.pow_le_pow_right (by omega) (by omega))
    have e2 : IntKind.u64.wrap ((v : Int) * 256) = ((v * 256 : Nat) : Int) := by rw [u64_id (by omega) (by omega)]; omega
    have e3 : bt b ((t + i : Nat) : Int) = (((ls b).getD (t + i) 0).toNat : Int) := bt_ls b _
    have e5 : IntKind.u64.wrap ((((ls b).getD (t + i) 0).toNat : Nat) : Int) = ((((ls b).getD (t + i) 0).toNat : Nat) : Int) := u64_id (by omega) (by omega)
    refine Ev.step (fun k => (if_pos (by omega)).trans ((if_pos (by rw [e1]; omega)).trans (if_pos (by rw [e1]; omega)))) ?_
    rw [e1, e2, e3, e4, e5, u64_or_nat _ _ (by omega) (by omega), or_add _ _ (by omega)]
    have h := unfix_l0 b t n hn hb hs m (i + 1) (v * 256 + ((ls b).getD (t + i) 0).toNat) (by omega) (by rw [Nat.pow_succ]; omega)
    rw [drop_cons 0 (ls b) (t + i) (by rw [ls_length]; omega), List.take_succ_cons]
    exact h
theorem Unfix_ev (b : ByteArray) (t n : Nat) (h1 : 1 ≤ n) (hn : n ≤ 8) (hb : t + n ≤ b.size) (hs : b.size ≤ 9223372036854775807) :
    Ev (fun k => num_Unfix.f k b (t : Int) (n : Int)) (((unL 0 (((ls b).drop t).take n) : Nat) : Int), 0) := by
  unfold num_Unfix.f
  refine Ev.iteF (by omega) (Ev.iteF (by omega) ?_)
  rw [show decide ((t : Int) < 0) = false from decide_eq_false (by omega)]
  have e1 : wrap64 ((b.size : Int) - (t : Int)) = (b.size : Int) - (t : Int) := wrap64_id (by omega) (by omega)
  refine Ev.step (fun k => (num_Unfix.j0.eq_2 _ _ _ _ _).trans ((if_neg (by simp)).trans ((if_neg (by omega)).trans (if_neg (by rw [e1]; omega))))) ?_
  have h := unfix_l0 b t n hn hb hs n 0 0 (by omega) (by simp)
  rw [Nat.add_zero] at h
  exact h
theorem Unfix_short (b : ByteArray) (t n : Nat) (h1 : 1 ≤ n) (hn : n ≤ 8) (hb : b.size < t + n) (ht : t ≤ 9223372036854775807) (hs : b.size ≤ 9223372036854775807) :
    Ev (fun k => num_Unfix.f k b (t : Int) (n : Int)) (0, 5) := by
  unfold num_Unfix.f
  refine Ev.iteF (by omega) (Ev.iteF (by omega) ?_)
  rw [show decide ((t : Int) < 0) = false from decide_eq_false (by omega)]
  have e1 : wrap64 ((b.size : Int) - (t : Int)) = (b.size : Int) - (t : Int) := wrap64_id (by omega) (by omega)
  by_cases c : (t : Int) > (b.size : Int)
  · exact Ev.step (fun k => (num_Unfix.j0.eq_2 _ _ _ _ _).trans ((if_neg (by simp)).trans (if_pos c))) (Ev.now _)
  · exact Ev.step (fun k => (num_Unfix.j0.eq_2 _ _ _ _ _).trans ((if_neg (by simp)).trans ((if_neg c).trans (if_pos (by rw [e1]; omega))))) (Ev.now _)
end Go.Proofs.Ythljboogcjpgiaa.Pure
