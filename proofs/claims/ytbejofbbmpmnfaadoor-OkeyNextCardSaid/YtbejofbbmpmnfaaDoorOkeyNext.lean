/- OkeyNext: the next one is above all that begin with a text, and nothing that does not stands between. -/
import Derived.Test.YtbejofbbmpmnfaaDoorPAllx1
import Derived.Test.YtbejofbbmpmnfaaDoorPAllx6
import Derived.Test.YtbejofbbmpmnfaaDoorOkeyLong
import Derived.Test.YtbejofbbmpmnfaaDoorLex
set_option linter.unusedSimpArgs false
set_option linter.unusedVariables false
namespace Go.Proofs.YtbejofbbmpmnfaaDoor.Pure
open Go.RowKit Go.Proofs.YtbejofbbmpmnfaaDoor.PAll Go.Proofs.YtbejofbbmpmnfaaDoorW.PrintWords Go.Proofs.YtbejofbbmpmnfaaDoorW.PrintMore Go.Proofs.YtbejofbbmpmnfaaDoor.Pb

theorem last_split : ∀ l : List UInt8, l ≠ [] → ∃ p c, l = p ++ [c]
  | [], h => absurd rfl h
  | l, h => ⟨l.dropLast, l.getLast h, (List.dropLast_concat_getLast h).symm⟩
theorem num1 (d : UInt8) : strOfNums [((d.toNat : Nat) : Int)] = ba [d] := by
  apply ls_inj
  simp [strOfNums, ls, ba]
/-- What Next answers: nothing, where all bytes are 255; else the last other byte's next one. -/
theorem Next_ev : ∀ (n : Nat) (s : ByteArray), s.size = n → s.size ≤ 1000000 →
    ((∀ c ∈ ls s, c = 255) ∧ Ev (fun k => okey_Next.f k s) ((⟨#[]⟩ : ByteArray), false)) ∨
    ∃ p c q, ls s = p ++ c :: q ∧ c ≠ 255 ∧ (∀ d ∈ q, d = 255) ∧ Ev (fun k => okey_Next.f k s) (ba (p ++ [c + 1]), true)
  | 0, s, hn, hs => by
    have h : ls s = [] := List.length_eq_zero_iff.1 (by rw [ls_length]; exact hn)
    exact .inl ⟨by rw [h]; simp, Ev.step (fun k => if_pos (by rw [toList_ls]; exact h)) (Ev.now _)⟩
  | n + 1, s, hn, hs => by
    have hne : ls s ≠ [] := fun h => by
      have h2 : (ls s).length = 0 := by rw [h]; rfl
      rw [ls_length] at h2
      omega
    obtain ⟨p, c, hp⟩ := last_split (ls s) hne
    have hl : p.length = n := by have := congrArg List.length hp; rw [ls_length] at this; simp at this; omega
    have e1 : wrap64 ((s.size : Int) - 1) = (n : Int) := by rw [wrap64_id (by omega) (by omega)]; omega
    have hb : bt s (n : Int) = (c.toNat : Int) := by rw [bt_ls, hp, Int.toNat_natCast, List.getD_eq_getElem?_getD, List.getElem?_append_right (by omega), hl]; simp
    have hx : ls (s.extract 0 n) = p := by rw [ls_extract, hp, List.take_append_of_le_length (by omega), List.take_of_length_le (by omega)]; rfl
    have hempty : ¬ s.toList = [] := by rw [toList_ls]; exact hne
    by_cases c255 : c = 255
    · have hb2 : bt s (n : Int) = 255 := by rw [hb, c255]; rfl
      have st : ∀ {r}, Ev (fun k => okey_Next.f k (s.extract 0 n)) r → Ev (fun k => okey_Next.f k s) r := fun h =>
        Ev.step (fun k => (if_neg hempty).trans ((if_pos (by rw [e1]; omega)).trans ((if_pos (by rw [e1]; omega)).trans ((if_pos (by rw [e1]; exact hb2)).trans (if_pos (by rw [e1]; omega)))))) (by rw [e1, Int.toNat_natCast]; exact h)
      rcases Next_ev n (s.extract 0 n) (by rw [← ls_length, hx, hl]) (by rw [← ls_length, hx, hl]; omega) with ⟨h1, h2⟩ | ⟨p', c', q, h1, h2, h3, h4⟩
      · refine .inl ⟨fun d hd => ?_, st h2⟩
        rw [hx] at h1
        rw [hp] at hd
        rcases List.mem_append.1 hd with hd | hd
        · exact h1 d hd
        · rw [List.mem_singleton.1 hd, c255]
      · rw [hx] at h1
        refine .inr ⟨p', c', q ++ [255], by rw [hp, h1, c255]; simp, h2, fun d hd => ?_, st h4⟩
        rcases List.mem_append.1 hd with hd | hd
        · exact h3 d hd
        · exact List.mem_singleton.1 hd
    · have hne2 : ¬ bt s (n : Int) = 255 := by
        rw [hb]
        intro h
        exact c255 (UInt8.toNat_inj.1 (by rw [show (255 : UInt8).toNat = 255 from rfl]; omega))
      have hcl := c.toNat_lt
      have hne3 : c.toNat ≠ 255 := fun h => c255 (UInt8.toNat_inj.1 (by rw [h]; rfl))
      have hc1 : (c + 1).toNat = c.toNat + 1 := by rw [UInt8.toNat_add]; show (c.toNat + 1) % 256 = _; omega
      have e2 : (bt s (n : Int) + 1) % 256 = (((c + 1).toNat : Nat) : Int) := by rw [hb, hc1]; omega
      have e3 : strOfNums [(((c + 1).toNat : Nat) : Int)] = ba [c + 1] := num1 _
      refine .inr ⟨p, c, [], hp, c255, by simp, ?_⟩
      refine Ev.step (fun k => (if_neg hempty).trans ((if_pos (by rw [e1]; omega)).trans ((if_pos (by rw [e1]; omega)).trans ((if_neg (by rw [e1]; exact hne2)).trans (if_pos (by rw [e1]; omega)))))) ?_
      rw [e1, e2, Int.toNat_natCast]
      show Ev (fun _ => if (s.extract 0 n).size + (strOfNums [(((c + 1).toNat : Nat) : Int)]).size ≤ 9223372036854775807 then some (s.extract 0 n ++ strOfNums [(((c + 1).toNat : Nat) : Int)], true) else none) _
      rw [e3]
      refine Ev.iteT (by rw [← ls_length, hx, size_ba, hl]; simp; omega) ?_
      rw [show s.extract 0 n ++ ba [c + 1] = ba (p ++ [c + 1]) from ls_inj (by simp [hx])]
      exact Ev.now _
theorem up_lt (c : UInt8) (h : c ≠ 255) : c < c + 1 ∧ ∀ d, d < c + 1 → d < c ∨ d = c := by
  have hcl := c.toNat_lt
  have hne3 : c.toNat ≠ 255 := fun h2 => h (UInt8.toNat_inj.1 (by rw [h2]; rfl))
  have hc1 : (c + 1).toNat = c.toNat + 1 := by rw [UInt8.toNat_add]; show (c.toNat + 1) % 256 = _; omega
  refine ⟨UInt8.lt_iff_toNat_lt.2 (by omega), fun d hd => ?_⟩
  have := UInt8.lt_iff_toNat_lt.1 hd
  rcases Nat.lt_or_ge d.toNat c.toNat with h | h
  · exact .inl (UInt8.lt_iff_toNat_lt.2 h)
  · exact .inr (UInt8.toNat_inj.1 (by omega))
theorem pre_255 : ∀ (q o : List UInt8), (∀ d ∈ q, d = 255) → ¬ o < q → ∃ r, o = q ++ r
  | [], o, _, _ => ⟨o, rfl⟩
  | c :: q, [], _, h => absurd (nil_lt c q) h
  | c :: q, d :: o, hq, h => by
    have hc := hq c (by simp)
    subst hc
    have hd : d = 255 := by
      rcases u8_tri d 255 with h2 | h2 | h2
      · exact absurd (lt_cons.2 (.inl h2)) h
      · exact h2
      · have := d.toNat_lt
        have h3 := UInt8.lt_iff_toNat_lt.1 h2
        rw [show (255 : UInt8).toNat = 255 from rfl] at h3
        omega
    subst hd
    obtain ⟨r, hr⟩ := pre_255 q o (fun d hd => hq d (by simp [hd])) fun h2 => h (lt_cons.2 (.inr ⟨rfl, h2⟩))
    exact ⟨r, by rw [hr]; rfl⟩
theorem next_pre (c : UInt8) (q : List UInt8) (hc : c ≠ 255) (hq : ∀ d ∈ q, d = 255) : ∀ (p o : List UInt8), ¬ o < p ++ c :: q → o < p ++ [c + 1] → ∃ r, o = (p ++ c :: q) ++ r
  | [], [], h1, _ => absurd (nil_lt c q) h1
  | [], d :: o, h1, h2 => by
    rw [List.nil_append] at h1 h2
    rcases lt_cons.1 h2 with h3 | ⟨rfl, h3⟩
    · rcases (up_lt c hc).2 d h3 with h4 | rfl
      · exact absurd (lt_cons.2 (.inl h4)) h1
      · obtain ⟨r, hr⟩ := pre_255 q o hq fun h5 => h1 (lt_cons.2 (.inr ⟨rfl, h5⟩))
        exact ⟨r, by rw [hr]; simp⟩
    · exact absurd h3 (not_lt_nil o)
  | x :: p, [], h1, _ => absurd (nil_lt x _) h1
  | x :: p, y :: o, h1, h2 => by
    rw [List.cons_append] at h1 h2
    rcases lt_cons.1 h2 with h3 | ⟨rfl, h3⟩
    · exact absurd (lt_cons.2 (.inl h3)) h1
    · obtain ⟨r, hr⟩ := next_pre c q hc hq p o (fun h => h1 (lt_cons.2 (.inr ⟨rfl, h⟩))) h3
      exact ⟨r, by rw [hr]; simp⟩
theorem next_l0 (s n : ByteArray) (hs : s.size ≤ 300) (ha : ∀ c ∈ ls s, c = 255) (hn : n.toList = []) : ∀ (m i : Nat), i + m = s.size → Ev (fun k => cornucopialaw2_OkeyNext.l0 k s n (i : Int)) true
  | 0, i, hi => by
    refine Ev.step (fun k => if_neg (by omega)) (Ev.bind alive_ev (Ev.iteT rfl ?_))
    rw [hn]
    exact Ev.now _
  | m + 1, i, hi => by
    have e1 : wrap64 ((i : Int) + 1) = ((i + 1 : Nat) : Int) := by rw [wrap64_id (by omega) (by omega)]; omega
    have hb : bt s (i : Int) = 255 := by
      have hil : i < (ls s).length := by rw [ls_length]; omega
      rw [bt_ls, Int.toNat_natCast, List.getD_eq_getElem?_getD, List.getElem?_eq_getElem hil]
      rw [Option.getD_some, ha _ (List.getElem_mem hil)]
      rfl
    refine Ev.step (fun k => (if_pos (by omega)).trans ((if_pos (by omega)).trans (if_pos hb))) ?_
    rw [e1]
    exact next_l0 s n hs ha hn m (i + 1) (by omega)
theorem next_j1 (s more other : ByteArray) (hs : s.size ≤ 300) (hm : more.size ≤ 300) (b : Bool) (hb : b = false → ¬ ∃ r, ls other = ls s ++ r) :
    Ev (fun k => (okey_Next.f k s).bind fun bt151 => cornucopialaw2_OkeyNext.j1 k s more other bt151.1 bt151.2 b) true := by
  rcases Next_ev s.size s rfl (by omega) with ⟨h1, h2⟩ | ⟨p, c, q, h1, h2, h3, h4⟩
  · refine Ev.bind h2 ?_
    refine Ev.step (fun k => (cornucopialaw2_OkeyNext.j1.eq_2 _ _ _ _ _ _ _).trans (if_neg (by simp))) ?_
    exact next_l0 s _ hs h1 (by rw [toList_ls]; rfl) s.size 0 (by omega)
  · refine Ev.bind h4 ?_
    refine Ev.step (fun k => (cornucopialaw2_OkeyNext.j1.eq_2 _ _ _ _ _ _ _).trans (if_pos rfl)) ?_
    have l1 : Op.bytesLess (s ++ more).toList (ba (p ++ [c + 1])).toList = true := by
      rw [less_eq, ls_append, h1, ls_ba, List.append_assoc]
      exact decide_eq_true ((app_lt p _ _).2 (lt_cons.2 (.inl (up_lt c h2).1)))
    have l2 : Op.bytesLess s.toList (ba (p ++ [c + 1])).toList = true := by
      rw [less_eq, h1, ls_ba]
      exact decide_eq_true ((app_lt p _ _).2 (lt_cons.2 (.inl (up_lt c h2).1)))
    refine Ev.bind alive_ev (Ev.iteT rfl (Ev.iteT (by omega) (Ev.iteT l1 (Ev.iteT l2 ?_))))
    cases b with
    | true => exact Ev.iteT rfl (Ev.now _)
    | false =>
      refine Ev.iteF (by simp) ?_
      by_cases l3 : Op.bytesLess other.toList s.toList = true
      · exact Ev.iteT l3 (Ev.now _)
      · refine Ev.iteF l3 ?_
        have l4 : Op.bytesLess other.toList (ba (p ++ [c + 1])).toList = false := by
          rw [less_eq] at l3 ⊢
          refine decide_eq_false fun h5 => ?_
          rw [ls_ba] at h5
          obtain ⟨r, hr⟩ := next_pre c q h2 h3 p (ls other) (by rw [← h1]; exact fun h => l3 (decide_eq_true h)) h5
          exact hb rfl ⟨r, by rw [h1]; exact hr⟩
        rw [l4]
        exact Ev.now _
theorem OkeyNext_pure (s more other : ByteArray) (hz : other.size ≤ 140737488355328) : ∃ k, cornucopialaw2_OkeyNext.f k s more other = some true := by
  refine Ev.rounds ?_
  have hal : Ev (fun k => cornucopialaw2_OkeyNext.j0 k s more other true) true :=
    Ev.step (fun k => (cornucopialaw2_OkeyNext.j0.eq_2 _ _ _ _ _).trans (if_pos rfl)) (Ev.bind alive_ev (Ev.now _))
  unfold cornucopialaw2_OkeyNext.f
  by_cases c1 : (s.size : Int) > 300
  · exact Ev.iteT c1 hal
  refine Ev.iteF c1 ?_
  by_cases c2 : (more.size : Int) > 300
  · exact Ev.iteT c2 hal
  refine Ev.iteF c2 ?_
  by_cases c3 : (other.size : Int) > 300
  · rw [decide_eq_true c3]; exact hal
  rw [decide_eq_false c3]
  refine Ev.step (fun k => (cornucopialaw2_OkeyNext.j0.eq_2 _ _ _ _ _).trans (if_neg (by simp))) ?_
  by_cases c4 : (other.size : Int) ≥ (s.size : Int)
  · have hb := next_j1 s more other (by omega) (by omega) ((other.extract 0 (((s.size : Int) : Int).toNat)).toList == s.toList) (by
      intro h1
      rintro ⟨r, hr⟩
      rw [beq_eq_false_iff_ne, Int.toNat_natCast, toList_ls, toList_ls, ls_extract, hr] at h1
      refine h1 ?_
      rw [← ls_length s, List.take_left]
      rfl)
    refine Ev.congr (fun k => ?_) hb
    simp only [if_pos c4, if_pos (show (0 : Int) ≤ (s.size : Int) by omega)]
  · have hb := next_j1 s more other (by omega) (by omega) false (by
      rintro - ⟨r, hr⟩
      have := congrArg List.length hr
      rw [List.length_append, ls_length, ls_length] at this
      omega)
    refine Ev.congr (fun k => ?_) hb
    simp only [if_neg c4]
end Go.Proofs.YtbejofbbmpmnfaaDoor.Pure
