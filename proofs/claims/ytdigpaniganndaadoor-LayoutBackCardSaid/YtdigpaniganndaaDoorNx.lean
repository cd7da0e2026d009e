/- What okey.Next answers, in plain words. -/
import Derived.Test.YtdigpaniganndaaDoorPAllx17
import Derived.Test.YtdigpaniganndaaDoorTx
set_option linter.unusedSimpArgs false
set_option linter.unusedVariables false
namespace Go.Proofs.YtdigpaniganndaaDoor.Pure
open Go.RowKit Go.Proofs.YtdigpaniganndaaDoor.PAll Go.Proofs.YtdigpaniganndaaDoorW.PrintWords Go.Proofs.YtdigpaniganndaaDoorW.PrintMore Go.Proofs.YtdigpaniganndaaDoor.Pb

theorem last_split : ∀ l : List UInt8, l ≠ [] → ∃ p c, l = p ++ [c]
  | [], h => absurd rfl h
  | l, h => ⟨l.dropLast, l.getLast h, (List.dropLast_concat_getLast h).symm⟩
theorem num1 (d : UInt8) : strOfNums [((d.toNat : Nat) : Int)] = ba [d] := by
  apply ls_inj
  simp [strOfNums, ls, ba]
/-- What Next answers: nothing, where all bytes are 255; else the last other byte's next one. -/
theorem Next_ev : ∀ (n : Nat) (s : ByteArray), s.size = n → s.size ≤ 1000000 →
    ((∀ c ∈ ls s, c = 255) ∧ Ev (fun k => okey_Next.f k s) ((⟨#[]⟩ : ByteArray), false)) ∨
    ∃ p c q, ls s = p ++ c :: q ∧ c ≠ 255 ∧ (∀ d ∈ q, d = 255) ∧ Ev (fun k => okey_Next.f k s) (ba (p ++ [c + 1]), true)
  | 0, s, hn, hs => by
    have h : ls s = [] := List.length_eq_zero_iff.1 (by rw [ls_length]; exact hn)
    exact .inl ⟨by rw [h]; simp, Ev.step (fun k => if_pos (by rw [toList_ls]; exact h)) (Ev.now _)⟩
  | n + 1, s, hn, hs => by
    have hne : ls s ≠ [] := fun h => by
      have h2 : (ls s).length = 0 := by rw [h]; rfl
      rw [ls_length] at h2
      omega
    obtain ⟨p, c, hp⟩ := last_split (ls s) hne
    have hl : p.length = n := by have := congrArg List.length hp; rw [ls_length] at this; simp at this; omega
    have e1 : wrap64 ((s.size : Int) - 1) = (n : Int) := by rw [wrap64_id (by omega) (by omega)]; omega
    have hb : bt s (n : Int) = (c.toNat : Int) := by rw [bt_ls, hp, Int.toNat_natCast, List.getD_eq_getElem?_getD, List.getElem?_append_right (by omega), hl]; simp
    have hx : ls (s.extract 0 n) = p := by rw [ls_extract, hp, List.take_append_of_le_length (by omega), List.take_of_length_le (by omega)]; rfl
    have hempty : ¬ s.toList = [] := by rw [toList_ls]; exact hne
    by_cases c255 : c = 255
    · have hb2 : bt s (n : Int) = 255 := by rw [hb, c255]; rfl
      have st : ∀ {r}, Ev (fun k => okey_Next.f k (s.extract 0 n)) r → Ev (fun k => okey_Next.f k s) r := fun h =>
        Ev.step (fun k => (if_neg hempty).trans ((if_pos (by rw [e1]; omega)).trans ((if_pos (by rw [e1]; omega)).trans ((if_pos (by rw [e1]; exact hb2)).trans (if_pos (by rw [e1]; omega)))))) (by rw [e1, Int.toNat_natCast]; exact h)
      rcases Next_ev n (s.extract 0 n) (by rw [← ls_length, hx, hl]) (by rw [← ls_length, hx, hl]; omega) with ⟨h1, h2⟩ | ⟨p', c', q, h1, h2, h3, h4⟩
      · refine .inl ⟨fun d hd => ?_, st h2⟩
        rw [hx] at h1
        rw [hp] at hd
        rcases List.mem_append.1 hd with hd | hd
        · exact h1 d hd
        · rw [List.mem_singleton.1 hd, c255]
      · rw [hx] at h1
        refine .inr ⟨p', c', q ++ [255], by rw [hp, h1, c255]; simp, h2, fun d hd => ?_, st h4⟩
        rcases List.mem_append.1 hd with hd | hd
        · exact h3 d hd
        · exact List.mem_singleton.1 hd
    · have hne2 : ¬ bt s (n : Int) = 255 := by
        rw [hb]
        intro h
        exact c255 (UInt8.toNat_inj.1 (by rw [show (255 : UInt8).toNat = 255 from rfl]; omega))
      have hcl := c.toNat_lt
      have hne3 : c.toNat ≠ 255 := fun h => c255 (UInt8.toNat_inj.1 (by rw [h]; rfl))
      have hc1 : (c + 1).toNat = c.toNat + 1 := by rw [UInt8.toNat_add]; show (c.toNat + 1) % 256 = _; omega
      have e2 : (bt s (n : Int) + 1) % 256 = (((c + 1).toNat : Nat) : Int) := by rw [hb, hc1]; omega
      have e3 : strOfNums [(((c + 1).toNat : Nat) : Int)] = ba [c + 1] := num1 _
      refine .inr ⟨p, c, [], hp, c255, by simp, ?_⟩
      refine Ev.step (fun k => (if_neg hempty).trans ((if_pos (by rw [e1]; omega)).trans ((if_pos (by rw [e1]; omega)).trans ((if_neg (by rw [e1]; exact hne2)).trans (if_pos (by rw [e1]; omega)))))) ?_
      rw [e1, e2, Int.toNat_natCast]
      show Ev (fun _ => if (s.extract 0 n).size + (strOfNums [(((c + 1).toNat : Nat) : Int)]).size ≤ 9223372036854775807 then some (s.extract 0 n ++ strOfNums [(((c + 1).toNat : Nat) : Int)], true) else none) _
      rw [e3]
      refine Ev.iteT (by rw [← ls_length, hx, size_ba, hl]; simp; omega) ?_
      rw [show s.extract 0 n ++ ba [c + 1] = ba (p ++ [c + 1]) from ls_inj (by simp [hx])]
      exact Ev.now _
theorem up_lt (c : UInt8) (h : c ≠ 255) : c < c + 1 ∧ ∀ d, d < c + 1 → d < c ∨ d = c := by
  have hcl := c.toNat_lt
  have hne3 : c.toNat ≠ 255 := fun h2 => h (UInt8.toNat_inj.1 (by rw [h2]; rfl))
  have hc1 : (c + 1).toNat = c.toNat + 1 := by rw [UInt8.toNat_add]; show (c.toNat + 1) % 256 = _; omega
  refine ⟨UInt8.lt_iff_toNat_lt.2 (by omega), fun d hd => ?_⟩
  have := UInt8.lt_iff_toNat_lt.1 hd
  rcases Nat.lt_or_ge d.toNat c.toNat with h | h
  · exact .inl (UInt8.lt_iff_toNat_lt.2 h)
  · exact .inr (UInt8.toNat_inj.1 (by omega))
theorem lt_asym : ∀ {a b : List UInt8}, a < b → ¬ b < a
  | [], [], h, _ => lt_irr _ h
  | [], _ :: _, _, h => not_lt_nil _ h
  | _ :: _, [], h, _ => not_lt_nil _ h
  | c :: a, d :: b, h, h2 => by
    rcases lt_cons.1 h with h3 | ⟨e3, h3⟩
    · rcases lt_cons.1 h2 with h4 | ⟨e4, h4⟩
      · exact u8_asym h3 h4
      · rw [e4] at h3
        exact u8_irr _ h3
    · rcases lt_cons.1 h2 with h4 | ⟨_, h4⟩
      · rw [e3] at h4
        exact u8_irr _ h4
      · exact lt_asym h3 h4
end Go.Proofs.YtdigpaniganndaaDoor.Pure
