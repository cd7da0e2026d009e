/- What reading a key answers, in plain words. -/
import Derived.Test.YtdigpaniganndaaDoorPAllx0
import Derived.Test.YtdigpaniganndaaDoorPAllx3
import Derived.Test.YtdigpaniganndaaDoorPAllx5
import Derived.Test.YtdigpaniganndaaDoorPAllx6
import Derived.Test.YtdigpaniganndaaDoorPAllx7
import Derived.Test.YtdigpaniganndaaDoorPAllx8
import Derived.Test.YtdigpaniganndaaDoorLay0
set_option linter.unusedSimpArgs false
set_option linter.unusedVariables false
namespace Go.Proofs.YtdigpaniganndaaDoor.Pure
open Go.RowKit Go.Proofs.YtdigpaniganndaaDoor.PAll Go.Proofs.YtdigpaniganndaaDoorW.PrintWords Go.Proofs.YtdigpaniganndaaDoorW.PrintMore Go.Proofs.YtdigpaniganndaaDoor.Pb

theorem text_g (r : List UInt8) : ∀ a acc : List UInt8, okey_text.g acc (tx a ++ r) = (ba (acc ++ a), ba r, 0)
  | [], acc => by simp [tx_nil, okey_text.g]
  | c :: a, acc => by
    by_cases c0 : c = 0
    · subst c0
      rw [tx_zero, List.cons_append, List.cons_append, okey_text.g_zero, text_g r a]
      simp
    · rw [tx_cons c a c0, List.cons_append, okey_text.g_step _ _ _ c0, text_g r a]
      simp
theorem unL8 (v : Nat) (hv : v < 18446744073709551616) (r : List UInt8) : unL 0 ((((be 8 v ++ r)).drop 0).take 8) = v := by
  rw [List.drop_zero, List.take_append_of_le_length (by simp), List.take_of_length_le (by simp), unL_be, Nat.zero_mul, Nat.zero_add]
  exact Nat.mod_eq_of_lt (by omega)
theorem one_pos {α : Type} (x : α) : (0 : Int) < (([x] : List α).length : Int) := by simp
theorem w01 : wrap64 (0 + 1) = 1 := by rw [wrap64_id (by omega) (by omega)]; rfl
theorem text_eq (a r : List UInt8) (h : a.length ≤ 1000000) (hr : r.length ≤ 1000000) : okey_text.f (ba (tx a ++ r)) = some (ba a, ba r, 0) := by
  have := tx_le a
  unfold okey_text.f
  rw [if_pos (by rw [size_ba, List.length_append]; omega), ls_ba, text_g, List.nil_append]
theorem get1_ev (a r : List UInt8) (h : a.length ≤ 1000000) (hr : r.length ≤ 1000000) : Ev (fun k => okey_get.f k (ba (tx a ++ r)) 1) (1, ba a, 0, 0, ba r, 0) := by
  unfold okey_get.f
  exact Ev.iteT rfl (Ev.bindC (text_eq a r h hr) (Ev.now _))
theorem Get1_ev (a r : List UInt8) (h : a.length ≤ 1000000) (hr : r.length ≤ 1000000) :
    Ev (fun k => okey_Get.f k (ba (tx a ++ r)) [1]) ([(⟨1, ba a, 0, 0⟩ : S51)], ba r, 0) := by
  unfold okey_Get.f
  refine Ev.step (fun k => (if_pos (by decide)).trans ((if_pos (by decide)).trans (if_pos (by decide)))) ?_
  refine Ev.bindC (show okey_isKind.f (rd [1] 0) = some true from rfl) (Ev.iteT rfl ?_)
  refine Ev.step (fun k => if_neg (by rw [w01]; decide)) ?_
  refine Ev.step (fun k => (if_pos (by decide)).trans ((if_pos (by decide)).trans (if_pos (by decide)))) ?_
  refine Ev.bind (show Ev (fun k => okey_get.f k (ba (tx a ++ r)) (rd [1] 0)) _ from get1_ev a r h hr) (Ev.iteT rfl (Ev.iteT (by decide) ?_))
  refine Ev.step (fun k => if_neg (by rw [w01]; decide)) ?_
  exact Ev.bindC (show strings_Clone.f (ba r) = some (ba r) from if_pos (by rw [size_ba]; omega)) (Ev.now _)
theorem Cut_eq (l : List UInt8) (h : l.length ≤ 1000000) : strings_CutPrefix.f (ba (111 :: l)) ⟨#[111]⟩ = some (ba l, true) := by
  have h1 : ((ba (111 :: l)).size : Int) ≥ ((⟨#[111]⟩ : ByteArray).size : Int) := by rw [size_ba, List.length_cons]; show _ ≥ ((1 : Nat) : Int); omega
  have hp : stringslite_HasPrefix.f (ba (111 :: l)) ⟨#[111]⟩ = some true := by
    unfold stringslite_HasPrefix.f
    rw [if_pos h1, if_pos (by decide), if_pos h1]
    refine congrArg some ?_
    rw [beq_iff_eq, toList_ls, toList_ls, ls_extract, ls_ba]
    rfl
  unfold strings_CutPrefix.f stringslite_CutPrefix.f
  rw [hp]
  simp only [Option.bind_some]
  rw [if_pos trivial, if_pos (by decide), if_pos h1]
  simp only [Option.bind_some]
  refine congrArg some (Prod.ext ?_ rfl)
  apply ls_inj
  rw [ls_extract, ls_ba, List.take_of_length_le (by rw [size_ba]; exact Nat.le_refl _)]
  show (111 :: l).drop 1 = ls (ba l)
  rw [ls_ba]
  rfl
/-- Is it a name, an element? -/
theorem Name_eq (a : ByteArray) : ∃ t, layout_ValidName.f a = some t ∧ (t = true ↔ ls a ≠ [] ∧ a.size ≤ 40) := by
  unfold layout_ValidName.f
  by_cases c : a.toList = []
  · exact ⟨false, if_pos c, by rw [toList_ls] at c; simp [c]⟩
  · refine ⟨_, if_neg c, ?_⟩
    rw [toList_ls] at c
    rw [decide_eq_true_iff]
    exact ⟨fun h => ⟨c, by omega⟩, fun h => by omega⟩
theorem Elem_eq (a : ByteArray) : ∃ t, layout_ValidElem.f a = some t ∧ (t = true ↔ ls a ≠ [] ∧ a.size ≤ 60) := by
  unfold layout_ValidElem.f
  by_cases c : a.toList = []
  · exact ⟨false, if_pos c, by rw [toList_ls] at c; simp [c]⟩
  · refine ⟨_, if_neg c, ?_⟩
    rw [toList_ls] at c
    rw [decide_eq_true_iff]
    exact ⟨fun h => ⟨c, by omega⟩, fun h => by omega⟩
theorem Name_true (a : ByteArray) (h : ls a ≠ []) (hs : a.size ≤ 40) : layout_ValidName.f a = some true := by
  obtain ⟨t, h1, h2⟩ := Name_eq a
  rw [h1, h2.2 ⟨h, hs⟩]
theorem Elem_true (a : ByteArray) (h : ls a ≠ []) (hs : a.size ≤ 60) : layout_ValidElem.f a = some true := by
  obtain ⟨t, h1, h2⟩ := Elem_eq a
  rw [h1, h2.2 ⟨h, hs⟩]
theorem dotParse_ev {a b c d n : Int} (h : Dt a b c d n) (hn : n ≠ 0) : Ev (fun k => dot_Parse.f k (ba (db a b c d n))) (a, b, c, d, n, 0) := by
  unfold dot_Parse.f
  refine Ev.iteT (by rw [size_ba, db_length]) ?_
  have hu := Unfix_ev (ba (db a b c d n)) 4 8 (by omega) (by omega) (by rw [size_ba, db_length]; omega) (by rw [size_ba, db_length]; omega)
  have hd : ((ls (ba (db a b c d n))).drop 4).take 8 = be 8 n.toNat := by
    rw [ls_ba]
    show (be 8 n.toNat).take 8 = _
    exact List.take_of_length_le (by simp)
  have hu8 : unL 0 (be 8 n.toNat) = n.toNat := by
    rw [unL_be, Nat.zero_mul, Nat.zero_add]
    exact Nat.mod_eq_of_lt (by have := h.n; omega)
  rw [hd, hu8, Int.toNat_of_nonneg h.n.1] at hu
  refine Ev.bind hu (Ev.iteT (by have := h.n; show n ≥ 1; omega) ?_)
  have e : ∀ (i : Nat) (x : Int), (db a b c d n).getD i 0 = UInt8.ofNat x.toNat → 0 ≤ x ∧ x < 256 → bt (ba (db a b c d n)) (i : Int) = x := fun i x hx hb => by
    rw [bt_ls, ls_ba, Int.toNat_natCast, hx, UInt8.toNat_ofNat']
    omega
  rw [show bt (ba (db a b c d n)) 0 = a from e 0 a rfl h.a, show bt (ba (db a b c d n)) 1 = b from e 1 b rfl h.b, show bt (ba (db a b c d n)) 2 = c from e 2 c rfl h.c, show bt (ba (db a b c d n)) 3 = d from e 3 d rfl h.d]
  exact Ev.now _
theorem rd0 (x : S51) : rd_T51 [x] 0 = x := rfl
theorem elem_ev (s e : ByteArray) (he : ls e ≠ []) (hes : e.size ≤ 60) {a b c d n : Int} (h : Dt a b c d n) (hn : n ≠ 0) :
    Ev (fun k => layout_elem.f k s 3 ⟨#[]⟩ 0 0 0 0 0 (ba (tx (ls e) ++ db a b c d n))) (s, 3, e, a, b, c, d, n, 0) := by
  unfold layout_elem.f
  have hl : (ls e).length ≤ 60 := by rw [ls_length]; exact hes
  refine Ev.bind (Get1_ev (ls e) (db a b c d n) (by omega) (by rw [db_length]; omega)) (Ev.iteT rfl (Ev.iteT (one_pos _) ?_))
  rw [rd0, ba_ls]
  refine Ev.bindC (Elem_true e he hes) ?_
  refine Ev.step (fun k => (layout_elem.j0.eq_2 _ _ _ _ _ _ _ _ _ _ _ _).trans (if_neg (by simp))) ?_
  refine Ev.bind (dotParse_ev h hn) (Ev.iteT rfl (Ev.iteT (one_pos _) ?_))
  rw [rd0]
  exact Ev.now _
theorem Parse_ev (s : ByteArray) (hs : ls s ≠ []) (hss : s.size ≤ 40) (rest : List UInt8) (hr : rest ≠ []) (hrl : rest.length ≤ 10000) {v} (h : Ev (fun k => layout_Parse.j0 k [(⟨1, s, 0, 0⟩ : S51)] (ba rest) false) v) : Ev (fun k => layout_Parse.f k (ba (111 :: (tx (ls s) ++ rest)))) v := by
  have hl : (ls s).length ≤ 40 := by rw [ls_length]; exact hss
  have ht := tx_le (ls s)
  unfold layout_Parse.f
  refine Ev.bindC (Cut_eq _ (by rw [List.length_append]; omega)) (Ev.bind (Get1_ev (ls s) rest (by omega) (by omega)) (Ev.iteT rfl (Ev.iteT rfl (Ev.iteT (one_pos _) ?_))))
  rw [rd0, ba_ls]
  refine Ev.bindC (Name_true s hs hss) (Ev.iteT rfl ?_)
  rw [show ((ba rest).toList == ([] : List UInt8)) = false by rw [beq_eq_false_iff_ne, toList_ls, ls_ba]; exact hr]
  exact h
theorem bt0 (c : UInt8) (l : List UInt8) : bt (ba (c :: l)) 0 = (c.toNat : Int) := by
  rw [bt_ls, ls_ba]
  rfl
theorem ParseElem_ev (s e : ByteArray) (hs : ls s ≠ []) (hss : s.size ≤ 40) (he : ls e ≠ []) (hes : e.size ≤ 60) {a b c d n : Int} (h : Dt a b c d n) (hn : n ≠ 0) :
    Ev (fun k => layout_Parse.f k (ba (kk (ls s) 3 ++ tx (ls e) ++ db a b c d n))) (s, 3, e, a, b, c, d, n, 0) := by
  have hl : (ls e).length ≤ 60 := by rw [ls_length]; exact hes
  have ht := tx_le (ls e)
  rw [show kk (ls s) 3 ++ tx (ls e) ++ db a b c d n = 111 :: (tx (ls s) ++ (3 :: (tx (ls e) ++ db a b c d n))) by simp [kk]]
  refine Parse_ev s hs hss _ (by simp) (by rw [List.length_cons, List.length_append, db_length]; omega) ?_
  have hz : (ba (3 :: (tx (ls e) ++ db a b c d n))).size = (tx (ls e)).length + 13 := by rw [size_ba, List.length_cons, List.length_append, db_length]
  have hb : wrap64 (bt (ba (3 :: (tx (ls e) ++ db a b c d n))) 0) = 3 := by rw [bt0, wrap64_id (by decide) (by decide)]; rfl
  refine Ev.step (fun k => (layout_Parse.j0.eq_2 _ _ _ _).trans ((if_neg (by simp)).trans ((if_pos (one_pos _)).trans ((if_pos (by rw [hz]; omega)).trans ((if_pos hb).trans (if_pos (by rw [hz]; omega))))))) ?_
  rw [rd0, hb]
  have hx : (ba (3 :: (tx (ls e) ++ db a b c d n))).extract 1 (ba (3 :: (tx (ls e) ++ db a b c d n))).size = ba (tx (ls e) ++ db a b c d n) := by
    apply ls_inj
    rw [ls_extract, ls_ba, ls_ba, List.take_of_length_le (by rw [size_ba]; exact Nat.le_refl _)]
    rfl
  rw [hx]
  exact Ev.bind (elem_ev s e he hes h hn) (Ev.now _)
theorem ParsePart_ev (s : ByteArray) (hs : ls s ≠ []) (hss : s.size ≤ 40) (p : Nat) (hp : p < 3) :
    Ev (fun k => layout_Parse.f k (ba (kk (ls s) p))) (s, (p : Int), ⟨#[]⟩, 0, 0, 0, 0, 0, 0) := by
  rw [show kk (ls s) p = 111 :: (tx (ls s) ++ [UInt8.ofNat p]) from rfl]
  refine Parse_ev s hs hss _ (by simp) (by simp) ?_
  have hb : wrap64 (bt (ba [UInt8.ofNat p]) 0) = (p : Int) := by
    rw [bt0, UInt8.toNat_ofNat', wrap64_id (by omega) (by omega)]
    omega
  have hz : (ba [UInt8.ofNat p]).size = 1 := by rw [size_ba]; rfl
  refine Ev.step (fun k => (layout_Parse.j0.eq_2 _ _ _ _).trans ((if_neg (by simp)).trans ((if_pos (one_pos _)).trans ((if_pos (by rw [hz]; decide)).trans ((if_neg (by rw [hb]; omega)).trans ((if_neg (by rw [hb]; omega)).trans (if_neg (by rw [hz]; decide)))))))) ?_
  rw [rd0, hb]
  exact Ev.now _
end Go.Proofs.YtdigpaniganndaaDoor.Pure
