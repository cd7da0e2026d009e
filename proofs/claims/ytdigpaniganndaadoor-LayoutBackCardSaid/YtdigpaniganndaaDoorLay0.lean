/- The keys of a tree, in plain words: what Key, ElemPrefix, ElemKey, Ends answer. -/
import Derived.Test.YtdigpaniganndaaDoorPAllx10
import Derived.Test.YtdigpaniganndaaDoorPAllx11
import Derived.Test.YtdigpaniganndaaDoorPAllx17
import Derived.Test.YtdigpaniganndaaDoorNx
set_option linter.unusedSimpArgs false
set_option linter.unusedVariables false
namespace Go.Proofs.YtdigpaniganndaaDoor.Pure
open Go.RowKit Go.Proofs.YtdigpaniganndaaDoor.PAll Go.Proofs.YtdigpaniganndaaDoorW.PrintWords Go.Proofs.YtdigpaniganndaaDoorW.PrintMore Go.Proofs.YtdigpaniganndaaDoor.Pb

/-- The key of a part. -/
def kk (l : List UInt8) (p : Nat) : List UInt8 := 111 :: (tx l ++ [UInt8.ofNat p])
theorem kk_length (l : List UInt8) (p : Nat) : (kk l p).length = (tx l).length + 2 := by simp [kk]
theorem tx_le (l : List UInt8) : (tx l).length ≤ 2 * l.length + 2 := by
  have := tx_length l
  have h2 : l.count 0 ≤ l.length := List.count_le_length
  omega
theorem Key_eq (a : ByteArray) (hs : a.size ≤ 1000000) (p : Nat) (hp : p < 256) : layout_Key.f a (p : Int) = some (ba (kk (ls a) p)) := by
  have hl := tx_le (ls a)
  rw [ls_length] at hl
  have hn : strOfNums [(p : Int) % 256] = ba [UInt8.ofNat p] := by
    have e : (p : Int) % 256 = (((UInt8.ofNat p).toNat : Nat) : Int) := by
      rw [UInt8.toNat_ofNat']; omega
    rw [e]
    exact num1 _
  unfold layout_Key.f
  rw [Text_eq a (by omega)]
  show (if 1 + (ba (tx (ls a))).size ≤ 9223372036854775807 then (if ((⟨#[111]⟩ : ByteArray) ++ ba (tx (ls a))).size + (strOfNums [(p : Int) % 256]).size ≤ 9223372036854775807 then some (((⟨#[111]⟩ : ByteArray) ++ ba (tx (ls a))) ++ strOfNums [(p : Int) % 256]) else none) else none) = _
  rw [hn, if_pos (by rw [size_ba]; omega), if_pos (by rw [ByteArray.size_append, size_ba, size_ba, show (⟨#[111]⟩ : ByteArray).size = 1 from rfl]; simp; omega)]
  exact congrArg some (ls_inj (by simp [kk, ls_mk]))
theorem ElemPrefix_eq (a e : ByteArray) (hs : a.size ≤ 1000000) (he : e.size ≤ 1000000) : layout_ElemPrefix.f a e = some (ba (kk (ls a) 3 ++ tx (ls e))) := by
  have hl := tx_le (ls a)
  have hl2 := tx_le (ls e)
  rw [ls_length] at hl hl2
  unfold layout_ElemPrefix.f
  rw [show layout_Key.f a 3 = _ from Key_eq a hs 3 (by omega), Text_eq e (by omega)]
  show (if (ba (kk (ls a) 3)).size + (ba (tx (ls e))).size ≤ 9223372036854775807 then some (ba (kk (ls a) 3) ++ ba (tx (ls e))) else none) = _
  rw [if_pos (by rw [size_ba, size_ba, kk_length]; omega)]
  exact congrArg some (ls_inj (by simp))
/-- A dot's bytes. -/
def db (a b c d n : Int) : List UInt8 := [UInt8.ofNat a.toNat, UInt8.ofNat b.toNat, UInt8.ofNat c.toNat, UInt8.ofNat d.toNat] ++ be 8 n.toNat
theorem db_length (a b c d n : Int) : (db a b c d n).length = 12 := by simp [db]
/-- A dot's words. -/
structure Dt (a b c d n : Int) : Prop where
  a : 0 ≤ a ∧ a < 256
  b : 0 ≤ b ∧ b < 256
  c : 0 ≤ c ∧ c < 256
  d : 0 ≤ d ∧ d < 256
  n : 0 ≤ n ∧ n < 18446744073709551616
theorem ls_four (a b c d : Int) : ls (strOfNums [a, b, c, d]) = [UInt8.ofNat a.toNat, UInt8.ofNat b.toNat, UInt8.ofNat c.toNat, UInt8.ofNat d.toNat] := by simp [ls, strOfNums]
theorem Bytes_ev {a b c d n : Int} (h : Dt a b c d n) : Ev (fun k => dot_Bytes.f k a b c d n) (ba (db a b c d n)) := by
  unfold dot_Bytes.f
  refine Ev.iteT ⟨h.a, h.b, h.c, h.d⟩ ?_
  have hf := Fix_ev n.toNat 8 (by omega) (by omega) (by have := h.n; omega)
  rw [Int.toNat_of_nonneg h.n.1] at hf
  refine Ev.bind hf (Ev.iteT (by rw [size_ba]; simp) ?_)
  rw [show strOfNums [a, b, c, d] ++ (ba (be 8 n.toNat), (0 : Int)).1 = ba (db a b c d n) from ls_inj (by simp [ls_four, db])]
  exact Ev.now _
theorem ElemKey_ev (s e : ByteArray) (hs : s.size ≤ 1000000) (he : e.size ≤ 1000000) {a b c d n : Int} (h : Dt a b c d n) : Ev (fun k => layout_ElemKey.f k s e a b c d n) (ba (kk (ls s) 3 ++ tx (ls e) ++ db a b c d n)) := by
  have hl := tx_le (ls s)
  have hl2 := tx_le (ls e)
  rw [ls_length] at hl hl2
  unfold layout_ElemKey.f
  refine Ev.bindC (ElemPrefix_eq s e hs he) (Ev.bind (Bytes_ev h) (Ev.iteT (by rw [size_ba, size_ba, List.length_append, kk_length, db_length]; omega) ?_))
  rw [show ba (kk (ls s) 3 ++ tx (ls e)) ++ ba (db a b c d n) = ba (kk (ls s) 3 ++ tx (ls e) ++ db a b c d n) from ls_inj (by simp)]
  exact Ev.now _
theorem last_eq {x y : List UInt8} {c d : UInt8} (h : x ++ [c] = y ++ [d]) : x = y ∧ c = d := by
  have := List.append_inj' h rfl
  exact ⟨this.1, by simpa using this.2⟩
theorem Ends_ev (s : ByteArray) (hs : s.size ≤ 100000) : Ev (fun k => layout_Ends.f k s) (ba (kk (ls s) 3), ba (kk (ls s) 4)) := by
  have hl := tx_le (ls s)
  rw [ls_length] at hl
  unfold layout_Ends.f
  refine Ev.bindC (Key_eq s (by omega) 3 (by omega)) ?_
  rcases Next_ev _ (ba (kk (ls s) 3)) rfl (by rw [size_ba, kk_length]; omega) with ⟨h1, _⟩ | ⟨p, c, q, h1, h2, h3, h4⟩
  · exact absurd (h1 111 (by rw [ls_ba]; simp [kk])) (by decide)
  · rw [ls_ba] at h1
    have hq : q = [] := by
      rcases List.eq_nil_or_concat q with h | ⟨q', d, h⟩
      · exact h
      · exfalso
        rw [h] at h1 h3
        have h5 : (111 :: tx (ls s)) ++ [UInt8.ofNat 3] = (p ++ c :: q') ++ [d] := by rw [show (111 :: tx (ls s)) ++ [UInt8.ofNat 3] = kk (ls s) 3 from rfl, h1]; simp
        have h6 := (last_eq h5).2
        have h7 := h3 d (by simp)
        rw [h7] at h6
        exact absurd h6 (by decide)
    subst hq
    obtain ⟨rfl, h6⟩ := last_eq (show (111 :: tx (ls s)) ++ [UInt8.ofNat 3] = p ++ [c] from h1)
    subst h6
    refine Ev.bind h4 ?_
    exact Ev.now _
theorem kk_lt (a b x y : List UInt8) (p q : Nat) : kk a p ++ x < kk b q ++ y ↔ a < b ∨ a = b ∧ (UInt8.ofNat p :: x) < (UInt8.ofNat q :: y) := by
  have h := tx_lt (UInt8.ofNat p :: x) (UInt8.ofNat q :: y) a b
  rw [← h]
  have e : ∀ l r (z : List UInt8), kk l r ++ z = [111] ++ (tx l ++ (UInt8.ofNat r :: z)) := fun l r z => by simp [kk]
  rw [e, e]
  exact app_lt [111] _ _
end Go.Proofs.YtdigpaniganndaaDoor.Pure
