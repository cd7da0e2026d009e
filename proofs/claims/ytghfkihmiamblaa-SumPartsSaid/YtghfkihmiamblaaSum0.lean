/- Chapter 3 in plain words: what the printed functions of packages num and sum answer. -/
import Derived.Test.YtghfkihmiamblaaPAllx2
import Derived.Test.YtghfkihmiamblaaPb
set_option linter.unusedSimpArgs false
set_option linter.unusedVariables false
namespace Go.Proofs.Ytghfkihmiamblaa.Pure
open Go.RowKit Go.Proofs.Ytghfkihmiamblaa.PAll Go.Proofs.YtghfkihmiamblaaW.PrintWords Go.Proofs.YtghfkihmiamblaaW.PrintMore Go.Proofs.Ytghfkihmiamblaa.Pb

/-! ### The check sum -/
def step (x : Nat) : Nat := if x % 2 = 1 then (x / 2) ^^^ 2197175160 else x / 2
def steps : Nat → Nat → Nat
  | 0, x => x
  | n + 1, x => steps n (step x)
def crcB (x : Nat) (b : UInt8) : Nat := steps 8 (x ^^^ b.toNat)
def crcL (x : Nat) (l : List UInt8) : Nat := l.foldl crcB x
def crc (l : List UInt8) : Nat := 4294967295 ^^^ crcL 4294967295 l
theorem step_lt {x : Nat} (h : x < 4294967296) : step x < 4294967296 := by
  unfold step
  split
  · exact Nat.xor_lt_two_pow (n := 32) (by omega) (by omega)
  · omega
theorem steps_lt : ∀ (n : Nat) {x : Nat}, x < 4294967296 → steps n x < 4294967296
  | 0, _, h => h
  | n + 1, _, h => steps_lt n (step_lt h)
theorem crcB_lt {x : Nat} (b : UInt8) (h : x < 4294967296) : crcB x b < 4294967296 := steps_lt 8 (Nat.xor_lt_two_pow (n := 32) h (by have := b.toNat_lt; omega))
theorem crcL_lt : ∀ (l : List UInt8) {x : Nat}, x < 4294967296 → crcL x l < 4294967296
  | [], _, h => h
  | b :: l, _, h => crcL_lt l (crcB_lt b h)
theorem crc_lt (l : List UInt8) : crc l < 4294967296 := Nat.xor_lt_two_pow (n := 32) (by omega) (crcL_lt l (by omega))
theorem crcL_append (x : Nat) (a b : List UInt8) : crcL x (a ++ b) = crcL (crcL x a) b := List.foldl_append

theorem step_bits (x : Nat) (h : x < 4294967296) : (if (Go.bits .and .u32 (x : Int) 1) = 1 then (Go.bits .xor .u32 ((x : Int) / 2) 2197175160) else (x : Int) / 2) = ((step x : Nat) : Int) := by
  have h1 : Go.bits .and .u32 (x : Int) 1 = ((x &&& 1 : Nat) : Int) := u32_and_nat x 1 h (by omega)
  have h2 : Go.bits .xor .u32 ((x : Int) / 2) 2197175160 = (((x / 2) ^^^ 2197175160 : Nat) : Int) := u32_xor_nat (x / 2) 2197175160 (by omega) (by omega)
  rw [h1, h2, Nat.and_one_is_mod]
  unfold step
  by_cases c : x % 2 = 1
  · rw [if_pos (by omega), if_pos c]
  · rw [if_neg (by omega), if_neg c]; omega

theorem l2_ev {r : Int} (x5 : ByteArray) (x8 : List ByteArray) (x9 x10 x15 x16 : Int) : ∀ (n x : Nat) (i : Int), x < 4294967296 → i = 8 - n → n ≤ 8 →
    Ev (fun k => sum_Crc.l1 k ((steps n x : Nat) : Int) x5 x8 x9 x10 x15 (wrap64 (x16 + 1))) r → Ev (fun k => sum_Crc.l2 k (x : Int) x5 x8 x9 x10 x15 x16 i) r
  | 0, x, i, hx, hi, _, h => Ev.step (fun k => by simp only [sum_Crc.l2]; rw [if_neg (by omega)]; rfl) h
  | n + 1, x, i, hx, hi, hn, h => by
    refine Ev.step (f := fun k => sum_Crc.l2 k ((step x : Nat) : Int) x5 x8 x9 x10 x15 x16 (i + 1)) (fun k => ?_) (l2_ev x5 x8 x9 x10 x15 x16 n (step x) (i + 1) (step_lt hx) (by omega) (by omega) h)
    simp only [sum_Crc.l2]
    rw [if_pos (by omega), wrap64_id (x := i + 1) (by omega) (by omega), ← step_bits x hx]
    split <;> rfl

theorem l1_ev {r : Int} (s : ByteArray) (x8 : List ByteArray) (x9 x10 : Int) (hs : s.size ≤ 140737488355328) : ∀ (n x : Nat) (i : Nat), x < 4294967296 → i + n = s.size →
    Ev (fun k => sum_Crc.l0 k ((crcL x ((ls s).drop i) : Nat) : Int) x8 x9 (wrap64 (x10 + 1))) r → Ev (fun k => sum_Crc.l1 k (x : Int) s x8 x9 x10 (s.size : Int) (i : Int)) r
  | 0, x, i, hx, hi, h => by
    refine Ev.step (f := fun k => sum_Crc.l0 k (x : Int) x8 x9 (wrap64 (x10 + 1))) (fun k => by simp only [sum_Crc.l1]; rw [if_neg (by omega)]) ?_
    rwa [List.drop_of_length_le (by rw [ls_length]; omega)] at h
  | n + 1, x, i, hx, hi, h => by
    have hb : bt s (i : Int) = (((ls s).getD i 0).toNat : Int) := bt_ls s i
    have hlt := ((ls s).getD i 0).toNat_lt
    have hx2 : x ^^^ ((ls s).getD i 0).toNat < 4294967296 := Nat.xor_lt_two_pow (n := 32) hx (by omega)
    refine Ev.step (f := fun k => sum_Crc.l2 k ((x ^^^ ((ls s).getD i 0).toNat : Nat) : Int) s x8 x9 x10 (s.size : Int) (i : Int) 0) (fun k => ?_) ?_
    · simp only [sum_Crc.l1]
      rw [if_pos (by omega), if_pos (by omega), if_pos (by omega), hb]
      congr 1
      rw [show (((ls s).getD i 0).toNat : Int) % 4294967296 = (((ls s).getD i 0).toNat : Int) by omega]
      exact u32_xor_nat _ _ hx (by omega)
    · refine l2_ev s x8 x9 x10 (s.size : Int) (i : Int) 8 _ 0 hx2 (by omega) (by omega) ?_
      rw [wrap64_id (x := (i : Int) + 1) (by omega) (by omega)]
      refine l1_ev s x8 x9 x10 hs n _ (i + 1) (steps_lt 8 hx2) (by omega) ?_
      rw [drop_cons 0 (ls s) i (by rw [ls_length]; omega)] at h
      exact h

def cat (l : List ByteArray) : List UInt8 := l.flatMap ls
theorem l0_ev (l : List ByteArray) (hl : l.length ≤ 9223372036854775806) (hs : ∀ s ∈ l, s.size ≤ 140737488355328) : ∀ (n x i : Nat), x < 4294967296 → i + n = l.length →
    Ev (fun k => sum_Crc.l0 k (x : Int) l (l.length : Int) (i : Int)) ((4294967295 ^^^ crcL x (cat (l.drop i)) : Nat) : Int)
  | 0, x, i, hx, hi => by
    refine Ev.step (f := fun _ => some ((4294967295 ^^^ crcL x (cat (l.drop i)) : Nat) : Int)) (fun k => ?_) (Ev.now _)
    simp only [sum_Crc.l0]
    rw [if_neg (by omega), List.drop_of_length_le (by omega)]
    exact congrArg some (u32_xor_nat 4294967295 x (by omega) hx)
  | n + 1, x, i, hx, hi => by
    have hg : rdOf ByteArray.empty l (i : Int) = l.getD i ByteArray.empty := rfl
    have hm : l.getD i ByteArray.empty ∈ l := by
      rw [List.getD_eq_getElem?_getD, List.getElem?_eq_getElem (by omega)]
      exact List.getElem_mem _
    refine Ev.step (f := fun k => sum_Crc.l1 k (x : Int) (l.getD i ByteArray.empty) l (l.length : Int) (i : Int) ((l.getD i ByteArray.empty).size : Int) ((0 : Nat) : Int)) (fun k => ?_) ?_
    · simp only [sum_Crc.l0]
      rw [if_pos (by omega), if_pos (by omega), if_pos (by omega), hg]
      rfl
    · refine l1_ev _ l _ _ (hs _ hm) _ x 0 hx (Nat.zero_add _) ?_
      rw [wrap64_id (x := (i : Int) + 1) (by omega) (by omega)]
      have := l0_ev l hl hs n (crcL x ((ls (l.getD i ByteArray.empty)).drop 0)) (i + 1) (crcL_lt _ hx) (by omega)
      rw [drop_cons ByteArray.empty l i (by omega)]
      rw [List.drop_zero] at this ⊢
      simp only [cat, List.flatMap_cons, crcL_append] at this ⊢
      exact this
theorem Crc_ev (l : List ByteArray) (hl : l.length ≤ 9223372036854775806) (hs : ∀ s ∈ l, s.size ≤ 140737488355328) : Ev (fun k => sum_Crc.f k l) ((crc (cat l) : Nat) : Int) :=
  l0_ev l hl hs l.length 4294967295 0 (by omega) (by omega)

end Go.Proofs.Ytghfkihmiamblaa.Pure
