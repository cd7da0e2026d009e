/- Dots, in plain words: bytes, numbers of actors, order. -/
import Derived.Test.YthljboogcjpgiaaPAllx4
import Derived.Test.YthljboogcjpgiaaPAllx5
import Derived.Test.YthljboogcjpgiaaPAllx8
import Derived.Test.YthljboogcjpgiaaPAllxL0
import Derived.Test.YthljboogcjpgiaaNum0
import Derived.Test.YthljboogcjpgiaaLex
import Derived.Test.YthljboogcjpgiaaDotOrd
set_option linter.unusedSimpArgs false
set_option linter.unusedVariables false
namespace Go.Proofs.Ythljboogcjpgiaa.Pure
open Go.RowKit Go.Proofs.Ythljboogcjpgiaa.PAll Go.Proofs.YthljboogcjpgiaaW.PrintWords Go.Proofs.YthljboogcjpgiaaW.PrintMore Go.Proofs.Ythljboogcjpgiaa.Pb

/-- A dot's bytes. -/
def db (a b c d n : Int) : List UInt8 := [UInt8.ofNat a.toNat, UInt8.ofNat b.toNat, UInt8.ofNat c.toNat, UInt8.ofNat d.toNat] ++ be 8 n.toNat
theorem db_length (a b c d n : Int) : (db a b c d n).length = 12 := by simp [db]
/-- A dot's words. -/
structure Dt (a b c d n : Int) : Prop where
  a : 0 ≤ a ∧ a < 256
  b : 0 ≤ b ∧ b < 256
  c : 0 ≤ c ∧ c < 256
  d : 0 ≤ d ∧ d < 256
  n : 0 ≤ n ∧ n < 18446744073709551616
theorem ls_four (a b c d : Int) : ls (strOfNums [a, b, c, d]) = [UInt8.ofNat a.toNat, UInt8.ofNat b.toNat, UInt8.ofNat c.toNat, UInt8.ofNat d.toNat] := by simp [ls, strOfNums]
theorem Bytes_ev {a b c d n : Int} (h : Dt a b c d n) : Ev (fun k => dot_Bytes.f k a b c d n) (ba (db a b c d n)) := by
  unfold dot_Bytes.f
  refine Ev.iteT ⟨h.a, h.b, h.c, h.d⟩ ?_
  have hf := Fix_ev n.toNat 8 (by omega) (by omega) (by have := h.n; omega)
  rw [Int.toNat_of_nonneg h.n.1] at hf
  refine Ev.bind hf (Ev.iteT (by rw [size_ba]; simp) ?_)
  rw [show strOfNums [a, b, c, d] ++ (ba (be 8 n.toNat), (0 : Int)).1 = ba (db a b c d n) from ls_inj (by simp [ls_four, db])]
  exact Ev.now _
theorem dotParse_any {a b c d n : Int} (h : Dt a b c d n) : Ev (fun k => dot_Parse.f k (ba (db a b c d n))) (if n = 0 then (0, 0, 0, 0, 0, 4) else (a, b, c, d, n, 0)) := by
  unfold dot_Parse.f
  refine Ev.iteT (by rw [size_ba, db_length]) ?_
  have hu := Unfix_ev (ba (db a b c d n)) 4 8 (by omega) (by omega) (by rw [size_ba, db_length]; omega) (by rw [size_ba, db_length]; omega)
  have hd : ((ls (ba (db a b c d n))).drop 4).take 8 = be 8 n.toNat := by
    rw [ls_ba]
    show (be 8 n.toNat).take 8 = _
    exact List.take_of_length_le (by simp)
  have hu8 : unL 0 (be 8 n.toNat) = n.toNat := by
    rw [unL_be, Nat.zero_mul, Nat.zero_add]
    exact Nat.mod_eq_of_lt (by have := h.n; omega)
  rw [hd, hu8, Int.toNat_of_nonneg h.n.1] at hu
  refine Ev.bind hu ?_
  by_cases hn : n = 0
  · rw [if_pos hn]
    exact Ev.iteF (by show ¬ n ≥ 1; omega) (Ev.now _)
  · rw [if_neg hn]
    refine Ev.iteT (by have := h.n; show n ≥ 1; omega) ?_
    have e : ∀ (i : Nat) (x : Int), (db a b c d n).getD i 0 = UInt8.ofNat x.toNat → 0 ≤ x ∧ x < 256 → bt (ba (db a b c d n)) (i : Int) = x := fun i x hx hb => by
      rw [bt_ls, ls_ba, Int.toNat_natCast, hx, UInt8.toNat_ofNat']
      omega
    rw [show bt (ba (db a b c d n)) 0 = a from e 0 a rfl h.a, show bt (ba (db a b c d n)) 1 = b from e 1 b rfl h.b, show bt (ba (db a b c d n)) 2 = c from e 2 c rfl h.c, show bt (ba (db a b c d n)) 3 = d from e 3 d rfl h.d]
    exact Ev.now _
/-! ### the order of the bytes -/
theorem unL_mono : ∀ (l m : List UInt8) (a b : Nat), l.length = m.length → a < b → unL a l < unL b m
  | [], [], a, b, _, h => h
  | c :: l, d :: m, a, b, hl, h => by
    have := c.toNat_lt
    have := d.toNat_lt
    exact unL_mono l m (a * 256 + c.toNat) (b * 256 + d.toNat) (by simpa using hl) (by omega)
theorem lt_unL : ∀ (l m : List UInt8) (a : Nat), l.length = m.length → (l < m ↔ unL a l < unL a m)
  | [], [], a, _ => ⟨fun h => absurd h (lt_irr _), fun h => absurd h (Nat.lt_irrefl _)⟩
  | c :: l, d :: m, a, hl => by
    have hl' : l.length = m.length := by simpa using hl
    rw [lt_cons]
    rcases u8_tri c d with h | h | h
    · have h' := UInt8.lt_iff_toNat_lt.1 h
      exact ⟨fun _ => unL_mono l m (a * 256 + c.toNat) (a * 256 + d.toNat) hl' (by omega), fun _ => .inl h⟩
    · subst h
      refine ⟨fun h => h.elim (fun h => absurd h (u8_irr c)) fun h => (lt_unL l m _ hl').1 h.2, fun h => .inr ⟨rfl, (lt_unL l m _ hl').2 h⟩⟩
    · have h' := UInt8.lt_iff_toNat_lt.1 h
      refine ⟨fun h2 => ?_, fun h2 => ?_⟩
      · rcases h2 with h2 | ⟨h2, _⟩
        · exact absurd h2 (u8_asym h)
        · exact absurd h (h2 ▸ u8_irr c)
      · have := unL_mono m l (a * 256 + d.toNat) (a * 256 + c.toNat) hl'.symm (by omega)
        exact absurd (Nat.lt_trans h2 this) (Nat.lt_irrefl _)
def rkn (a b c d n : Int) : Int := (((a * 256 + b) * 256 + c) * 256 + d) * 18446744073709551616 + n
theorem unL_db {a b c d n : Int} (h : Dt a b c d n) : ((unL 0 (db a b c d n) : Nat) : Int) = rkn a b c d n := by
  have e : unL 0 (db a b c d n) = unL ((((0 * 256 + (UInt8.ofNat a.toNat).toNat) * 256 + (UInt8.ofNat b.toNat).toNat) * 256 + (UInt8.ofNat c.toNat).toNat) * 256 + (UInt8.ofNat d.toNat).toNat) (be 8 n.toNat) := by simp only [db, unL, List.cons_append, List.nil_append, List.foldl_cons]
  rw [e, unL_be]
  simp only [UInt8.toNat_ofNat']
  have := h.a; have := h.b; have := h.c; have := h.d; have := h.n
  unfold rkn
  omega
theorem db_lt {a b c d n a' b' c' d' n' : Int} (h : Dt a b c d n) (h' : Dt a' b' c' d' n') : db a b c d n < db a' b' c' d' n' ↔ rkn a b c d n < rkn a' b' c' d' n' := by
  rw [lt_unL _ _ 0 (by rw [db_length, db_length]), ← unL_db h, ← unL_db h']
  exact Int.ofNat_lt.symm
theorem cmpd_eq {a b c d n a' b' c' d' n' : Int} (h : Dt a b c d n) (h' : Dt a' b' c' d' n') : cmpd a b c d n a' b' c' d' n' = if rkn a b c d n < rkn a' b' c' d' n' then -1 else if rkn a b c d n > rkn a' b' c' d' n' then 1 else 0 :=
  Ds.cmpd_rk (x := ⟨⟨a, b, c, d⟩, n⟩) (y := ⟨⟨a', b', c', d'⟩, n'⟩) ⟨h.a, h.b, h.c, h.d, h.n⟩ ⟨h'.a, h'.b, h'.c, h'.d, h'.n⟩
theorem rkn_inj {a b c d n a' b' c' d' n' : Int} (h : Dt a b c d n) (h' : Dt a' b' c' d' n') (e : rkn a b c d n = rkn a' b' c' d' n') : a = a' ∧ b = b' ∧ c = c' ∧ d = d' ∧ n = n' := by
  have := h.a; have := h.b; have := h.c; have := h.d; have := h.n
  have := h'.a; have := h'.b; have := h'.c; have := h'.d; have := h'.n
  unfold rkn at e
  omega
/-! ### the numbers of actors -/
def idn (a b c d : Int) : Int := ((a * 256 + b) * 256 + c) * 256 + d
theorem Id_eq {a b c d : Int} (ha : 0 ≤ a ∧ a < 256) (hb : 0 ≤ b ∧ b < 256) (hc : 0 ≤ c ∧ c < 256) (hd : 0 ≤ d ∧ d < 256) : dot_Id.f a b c d = some (idn a b c d) := by
  obtain ⟨A, rfl⟩ := Int.eq_ofNat_of_zero_le ha.1
  obtain ⟨B, rfl⟩ := Int.eq_ofNat_of_zero_le hb.1
  obtain ⟨C, rfl⟩ := Int.eq_ofNat_of_zero_le hc.1
  obtain ⟨D, rfl⟩ := Int.eq_ofNat_of_zero_le hd.1
  unfold dot_Id.f idn
  have e0 : (((A : Int) % 4294967296) * 16777216) % 4294967296 = ((A * 16777216 : Nat) : Int) := by omega
  have e1 : (((B : Int) % 4294967296) * 65536) % 4294967296 = ((B * 65536 : Nat) : Int) := by omega
  have e2 : (((C : Int) % 4294967296) * 256) % 4294967296 = ((C * 256 : Nat) : Int) := by omega
  have e3 : ((D : Int) % 4294967296) = ((D : Nat) : Int) := by omega
  rw [e0, e1, e2, e3, u32_or_nat _ _ (by omega) (by omega), nat_join 24 _ _ (by omega) (by omega), u32_or_nat _ _ (by omega) (by omega), nat_join 16 _ _ (by omega) (by omega), u32_or_nat _ _ (by omega) (by omega), nat_join 8 _ _ (by omega) (by omega), wrap64_id (by omega) (by omega)]
  exact congrArg some (by omega)
theorem Actor_eq (x : Int) : dot_Actor.f x = some ((x % 4294967296) / 16777216, ((x % 4294967296) / 65536) % 256, ((x % 4294967296) / 256) % 256, x % 256) := rfl
theorem idn_actor (x : Int) : idn ((x % 4294967296) / 16777216) (((x % 4294967296) / 65536) % 256) (((x % 4294967296) / 256) % 256) (x % 256) = x % 4294967296 := by unfold idn; omega
theorem dt {a b c d n : Int} (h : ((Lit.int .u8 a).wf = true ∧ (Lit.int .u8 b).wf = true ∧ (Lit.int .u8 c).wf = true ∧ (Lit.int .u8 d).wf = true) ∧ (Lit.int .u64 n).wf = true) : Dt a b c d n :=
  ⟨(Ds.wf8_iff _).1 h.1.1, (Ds.wf8_iff _).1 h.1.2.1, (Ds.wf8_iff _).1 h.1.2.2.1, (Ds.wf8_iff _).1 h.1.2.2.2, (Ds.wf64_iff _).1 h.2⟩
theorem alive_eq : cornucopialaw18_alive.f = some true := rfl
end Go.Proofs.Ythljboogcjpgiaa.Pure
