/- The order of dots. -/
import Derived.Test.YthljboogcjpgiaaDotSeq
import Derived.Test.YthljboogcjpgiaaPAllx8
import Derived.Shelf.SlSortCmp.WholeK
set_option linter.unusedSimpArgs false
set_option linter.unusedVariables false
namespace Go.Proofs.Ythljboogcjpgiaa.Ds
open Go.RowKit Go.Maps Go.Sort Go.Proofs.Ythljboogcjpgiaa.PAll Go.Proofs.YthljboogcjpgiaaW.PrintWords

def rk4 (a b c d : Int) : Int := ((a * 256 + b) * 256 + c) * 256 + d
def sgn (x y : Int) : Int := if x < y then -1 else if x > y then 1 else 0
theorem u8ne {x y : Int} (hx : 0 ≤ x ∧ x < 256) (hy : 0 ≤ y ∧ y < 256) : (x.toNat.toUInt8 != y.toNat.toUInt8) = decide (x ≠ y) := by
  have e : x.toNat.toUInt8 = y.toNat.toUInt8 ↔ x = y := by
    rw [← UInt8.toNat_inj]
    simp [Nat.toUInt8]
    omega
  by_cases h : x = y
  · subst h; simp
  · have h2 : ¬ x.toNat.toUInt8 = y.toNat.toUInt8 := fun h' => h (e.1 h')
    rw [decide_eq_true h]
    exact bne_iff_ne.2 h2
theorem u8lt {x y : Int} (hx : 0 ≤ x ∧ x < 256) (hy : 0 ≤ y ∧ y < 256) : (x.toNat.toUInt8 < y.toNat.toUInt8) ↔ x < y := by
  rw [UInt8.lt_iff_toNat_lt]
  simp [Nat.toUInt8]
  omega
theorem cmp4_rk {a b c d a' b' c' d' : Int} (ha : 0 ≤ a ∧ a < 256) (hb : 0 ≤ b ∧ b < 256) (hc : 0 ≤ c ∧ c < 256) (hd : 0 ≤ d ∧ d < 256) (ha' : 0 ≤ a' ∧ a' < 256) (hb' : 0 ≤ b' ∧ b' < 256) (hc' : 0 ≤ c' ∧ c' < 256) (hd' : 0 ≤ d' ∧ d' < 256) :
    cmp4 a b c d a' b' c' d' = sgn (rk4 a b c d) (rk4 a' b' c' d') := by
  have e0 := u8ne ha ha'
  have e1 := u8ne hb hb'
  have e2 := u8ne hc hc'
  have e3 := u8ne hd hd'
  have l0 := u8lt ha ha'
  have l1 := u8lt hb hb'
  have l2 := u8lt hc hc'
  have l3 := u8lt hd hd'
  have hr : List.range (min (ByteArray.size ⟨#[a.toNat.toUInt8, b.toNat.toUInt8, c.toNat.toUInt8, d.toNat.toUInt8]⟩) (ByteArray.size ⟨#[a'.toNat.toUInt8, b'.toNat.toUInt8, c'.toNat.toUInt8, d'.toNat.toUInt8]⟩)) = [0, 1, 2, 3] := rfl
  unfold cmp4 Extern.BytealgCompare.cmp
  rw [hr]
  have g0 : ∀ (p q r s : UInt8), (⟨#[p, q, r, s]⟩ : ByteArray)[0]! = p := fun _ _ _ _ => rfl
  have g1 : ∀ (p q r s : UInt8), (⟨#[p, q, r, s]⟩ : ByteArray)[1]! = q := fun _ _ _ _ => rfl
  have g2 : ∀ (p q r s : UInt8), (⟨#[p, q, r, s]⟩ : ByteArray)[2]! = r := fun _ _ _ _ => rfl
  have g3 : ∀ (p q r s : UInt8), (⟨#[p, q, r, s]⟩ : ByteArray)[3]! = s := fun _ _ _ _ => rfl
  have gs : ∀ (p q r s : UInt8), (⟨#[p, q, r, s]⟩ : ByteArray).size = 4 := fun _ _ _ _ => rfl
  simp only [List.find?_cons, List.find?_nil, g0, g1, g2, g3, e0, e1, e2, e3, gs, Nat.lt_irrefl, gt_iff_lt, if_false]
  unfold sgn rk4
  by_cases h0 : a = a'
  · by_cases h1 : b = b'
    · by_cases h2 : c = c'
      · by_cases h3 : d = d'
        · subst h0 h1 h2 h3; simp
        · subst h0 h1 h2; simp [h3, g3, l3]; (repeat' split) <;> omega
      · subst h0 h1; simp [h2, g2, l2]; (repeat' split) <;> omega
    · subst h0; simp [h1, g1, l1]; (repeat' split) <;> omega
  · simp [h0, g0, l0]; (repeat' split) <;> omega
/-- A dot's rank. -/
def rk (x : Dt) : Int := rk4 x.f0.f0 x.f0.f1 x.f0.f2 x.f0.f3 * 18446744073709551616 + x.f1
theorem cmpd_rk {x y : Dt} (hx : Wd x) (hy : Wd y) : cmpd x.f0.f0 x.f0.f1 x.f0.f2 x.f0.f3 x.f1 y.f0.f0 y.f0.f1 y.f0.f2 y.f0.f3 y.f1 = sgn (rk x) (rk y) := by
  unfold cmpd
  rw [cmp4_rk hx.a hx.b hx.c hx.d hy.a hy.b hy.c hy.d]
  have h1 := hx.n
  have h2 := hy.n
  unfold rk
  generalize rk4 x.f0.f0 x.f0.f1 x.f0.f2 x.f0.f3 = p
  generalize rk4 y.f0.f0 y.f0.f1 y.f0.f2 y.f0.f3 = q
  unfold sgn
  repeat' split
  all_goals omega
theorem rk_inj {x y : Dt} (hx : Wd x) (hy : Wd y) (h : rk x = rk y) : x = y := by
  have := hx.a; have := hx.b; have := hx.c; have := hx.d; have := hx.n
  have := hy.a; have := hy.b; have := hy.c; have := hy.d; have := hy.n
  obtain ⟨⟨a, b, c, d⟩, n⟩ := x
  obtain ⟨⟨a', b', c', d'⟩, n'⟩ := y
  unfold rk rk4 at h
  simp only at *
  obtain rfl : a = a' := by omega
  obtain rfl : b = b' := by omega
  obtain rfl : c = c' := by omega
  obtain rfl : d = d' := by omega
  obtain rfl : n = n' := by omega
  rfl
def rkv (x : Vd) : Int := rk x.1
theorem rkv_inj {x y : Vd} (h : rkv x = rkv y) : x = y := by
  have := rk_inj x.2 y.2 h
  obtain ⟨x, hx⟩ := x
  obtain ⟨y, hy⟩ := y
  simp only at this
  subst this
  rfl
def cfd (x y : Vd) : Int := sgn (rkv x) (rkv y)
theorem ltd_iff (x y : Vd) : ltOf cfd x y = decide (rkv x < rkv y) := by
  unfold ltOf cfd sgn
  by_cases h : rkv x < rkv y
  · simp [h]
  · by_cases h2 : rkv x > rkv y <;> simp [h, h2]
theorem swod : SWO (ltOf cfd) := by
  refine ⟨fun x => ?_, fun x y z h1 h2 => ?_, fun x y z h1 h2 => ?_⟩ <;> simp only [ltd_iff, decide_eq_true_eq, decide_eq_false_iff_not] at * <;> omega
end Go.Proofs.Ythljboogcjpgiaa.Ds
